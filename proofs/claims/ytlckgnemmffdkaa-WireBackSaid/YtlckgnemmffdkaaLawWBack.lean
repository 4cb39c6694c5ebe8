import Derived.Test.YtlckgnemmffdkaaPackWireBack1
import Derived.Test.YtlckgnemmffdkaaWirTopMsg
import Derived.Test.YtlckgnemmffdkaaWirTopSt
import Derived.Test.YtlckgnemmffdkaaWirSameM
import Derived.Test.YtlckgnemmffdkaaWirSameSt
import Derived.Test.YtlckgnemmffdkaaPackWireMessage4
import Derived.Test.YtlckgnemmffdkaaPackWireMessage1
import Derived.Deep.QuietTactic
import Derived.BigQuiet
set_option linter.unusedVariables false
set_option linter.unusedSimpArgs false
/- The law of things read as written and written as read: its walk. (printed by gen_wirback.py) -/
namespace Go.Proofs.Ytlckgnemmffdkaa
open Go.ChangeShapes Go.WideShapes Go.ChangeAt Go.RowKit
set_option maxRecDepth 100000

set_option maxHeartbeats 32000000 in
theorem law_back (m : WMsg) (pm : PMsg) (k : WCmd) (pk : PCmd) (s : WSt) (ps : PSt) (a : Option Addr) (l : List UInt8) (n c : Nat) (a2 : Option Addr) (l2 : List UInt8) (n2 c2 : Nat) (w : World)
    (hm : goodWMsg m) (hmz : m.entries.length ≤ 1000000000000000) (hmz2 : ∀ y ∈ m.entries, y.data.length ≤ 1000000000000000) (hmp : LowMsg w.heap.size w m pm)
    (hk : goodWCmd k) (hkp : LowCmd w.heap.size w k pk)
    (hs : goodWSt s) (hsz : s.tens.length ≤ 1000000000000000 ∧ s.leas.length ≤ 1000000000000000 ∧ s.sess.length ≤ 1000000000000000 ∧ s.dsks.length ≤ 1000000000000000) (hsp : LowSt w.heap.size w s ps)
    (hn : l.length = n) (hc : n ≤ c) (hr : RowB w a l) (hn2 : l2.length = n2) (hc2 : n2 ≤ c2) (hr2 : RowB w a2 l2) :
    Calls Try.prog 8 #[valMsg m pm, valCmd k pk, valSt s ps, .slice a n c, .slice a2 n2 c2] w (fun e w' => e = .returned (.bool true) ∧ Below w.heap.size w w') := by
  have HGR := Lib.hid (fun w' (hb : Below w.heap.size w w') => great_message m pm w' (hmp.up hb.size hb) hmz hmz2)
  have hgs := fun w' => great_state s ps w' hsz
  by_cases hgK : 500 < k.leases.length
  · by_cases hgS : 300 < s.tens.length + s.leas.length + s.sess.length + s.dsks.length
    · skip
      rw [decide_eq_true hgS] at hgs
      have HGS := Lib.hid hgs
      clear hgs
      clear hm hmz hmz2 hmp hk hkp hs hsz hsp hr hr2
      have HN := Lib.hid (And.intro hn hn2)
      clear hn hn2
      obtain ⟨m0, m1, m2, m3, m4, m5, m6, m7, m8, m9, m10, m11, m12, m13⟩ := m
      obtain ⟨pm0, pm1, pm2, pm3, pm4, pm5⟩ := pm
      obtain ⟨k0, k1, k2, k3, k4, k5, k6, k7, k8, k9, k10, k11, k12⟩ := k
      obtain ⟨pk0, pk1⟩ := pk
      obtain ⟨s0, s1, s2, s3, s4, s5, s6⟩ := s
      obtain ⟨ps0, ps1, ps2, ps3, ps4, ps5, ps6, ps7⟩ := ps
      simp only at hgK
      have HB0 : Hid (Below w.heap.size w (((w.alloc (.cells #[.int .i8 m0, .int .i64 m1, .int .i64 m2, .int .i64 m3, .int .i64 m4, .int .i64 m5, .int .i64 m6, .bool m7, .slice pm0 m8.length pm1, .int .i64 m9, .int .i64 m10, B m11, .slice pm2 m12.length pm3, .slice pm4 m13.length pm5] 67)).alloc (.cells #[.int .i8 k0, .int .i64 k1, .int .i64 k2, .int .i64 k3, .int .i64 k4, .int .i64 k5, .int .i64 k6, .int .i64 k7, .int .i64 k8, .int .i64 k9, .int .i64 k10, .bool k11, .slice pk0 k12.length pk1] 40)).alloc (.cells #[.int .i64 s0, .int .i64 s1, .int .i64 s2, .slice ps0 s3.length ps1, .slice ps2 s4.length ps3, .slice ps4 s5.length ps5, .slice ps6 s6.length ps7] 56))) := mid_alloc' (mid_alloc' (mid_alloc' (Below.refl _ _)))
      have HX0 : Hid (Box (((w.alloc (.cells #[.int .i8 m0, .int .i64 m1, .int .i64 m2, .int .i64 m3, .int .i64 m4, .int .i64 m5, .int .i64 m6, .bool m7, .slice pm0 m8.length pm1, .int .i64 m9, .int .i64 m10, B m11, .slice pm2 m12.length pm3, .slice pm4 m13.length pm5] 67)).alloc (.cells #[.int .i8 k0, .int .i64 k1, .int .i64 k2, .int .i64 k3, .int .i64 k4, .int .i64 k5, .int .i64 k6, .int .i64 k7, .int .i64 k8, .int .i64 k9, .int .i64 k10, .bool k11, .slice pk0 k12.length pk1] 40)).alloc (.cells #[.int .i64 s0, .int .i64 s1, .int .i64 s2, .slice ps0 s3.length ps1, .slice ps2 s4.length ps3, .slice ps4 s5.length ps5, .slice ps6 s6.length ps7] 56)) w.heap.size [.int .i8 m0, .int .i64 m1, .int .i64 m2, .int .i64 m3, .int .i64 m4, .int .i64 m5, .int .i64 m6, .bool m7, .slice pm0 m8.length pm1, .int .i64 m9, .int .i64 m10, B m11, .slice pm2 m12.length pm3, .slice pm4 m13.length pm5]) := Box.of_alloc (w := w) (cs := [.int .i8 m0, .int .i64 m1, .int .i64 m2, .int .i64 m3, .int .i64 m4, .int .i64 m5, .int .i64 m6, .bool m7, .slice pm0 m8.length pm1, .int .i64 m9, .int .i64 m10, B m11, .slice pm2 m12.length pm3, .slice pm4 m13.length pm5]) (t := 67) (mid_alloc' (mid_alloc' (Below.refl _ _)))
      have HY0 : Hid (Box (((w.alloc (.cells #[.int .i8 m0, .int .i64 m1, .int .i64 m2, .int .i64 m3, .int .i64 m4, .int .i64 m5, .int .i64 m6, .bool m7, .slice pm0 m8.length pm1, .int .i64 m9, .int .i64 m10, B m11, .slice pm2 m12.length pm3, .slice pm4 m13.length pm5] 67)).alloc (.cells #[.int .i8 k0, .int .i64 k1, .int .i64 k2, .int .i64 k3, .int .i64 k4, .int .i64 k5, .int .i64 k6, .int .i64 k7, .int .i64 k8, .int .i64 k9, .int .i64 k10, .bool k11, .slice pk0 k12.length pk1] 40)).alloc (.cells #[.int .i64 s0, .int .i64 s1, .int .i64 s2, .slice ps0 s3.length ps1, .slice ps2 s4.length ps3, .slice ps4 s5.length ps5, .slice ps6 s6.length ps7] 56)) (w.heap.size + 1) [.int .i8 k0, .int .i64 k1, .int .i64 k2, .int .i64 k3, .int .i64 k4, .int .i64 k5, .int .i64 k6, .int .i64 k7, .int .i64 k8, .int .i64 k9, .int .i64 k10, .bool k11, .slice pk0 k12.length pk1]) := Box.of_alloc1 (w := w) (cs := [.int .i8 k0, .int .i64 k1, .int .i64 k2, .int .i64 k3, .int .i64 k4, .int .i64 k5, .int .i64 k6, .int .i64 k7, .int .i64 k8, .int .i64 k9, .int .i64 k10, .bool k11, .slice pk0 k12.length pk1]) (t := 40) (mid_alloc' (Below.refl _ _))
      have HZ0 : Hid (Box (((w.alloc (.cells #[.int .i8 m0, .int .i64 m1, .int .i64 m2, .int .i64 m3, .int .i64 m4, .int .i64 m5, .int .i64 m6, .bool m7, .slice pm0 m8.length pm1, .int .i64 m9, .int .i64 m10, B m11, .slice pm2 m12.length pm3, .slice pm4 m13.length pm5] 67)).alloc (.cells #[.int .i8 k0, .int .i64 k1, .int .i64 k2, .int .i64 k3, .int .i64 k4, .int .i64 k5, .int .i64 k6, .int .i64 k7, .int .i64 k8, .int .i64 k9, .int .i64 k10, .bool k11, .slice pk0 k12.length pk1] 40)).alloc (.cells #[.int .i64 s0, .int .i64 s1, .int .i64 s2, .slice ps0 s3.length ps1, .slice ps2 s4.length ps3, .slice ps4 s5.length ps5, .slice ps6 s6.length ps7] 56)) (w.heap.size + 1 + 1) [.int .i64 s0, .int .i64 s1, .int .i64 s2, .slice ps0 s3.length ps1, .slice ps2 s4.length ps3, .slice ps4 s5.length ps5, .slice ps6 s6.length ps7]) := Box.of_alloc2 (w := w) (cs := [.int .i64 s0, .int .i64 s1, .int .i64 s2, .slice ps0 s3.length ps1, .slice ps2 s4.length ps3, .slice ps4 s5.length ps5, .slice ps6 s6.length ps7]) (t := 56) (Below.refl _ _)
      unfold valMsg at HGR
      unfold valSt at HGS
      unfold valMsg valCmd valSt
      simp only at HGR HGS ⊢
      have d1 : decide ((500 : Int) < (k12.length : Int)) = true := decide_eq_true (by omega)
      as_aux_lemma =>
      go_enter Try.func8, Try.ntmps8
      go_wp2_with (first
        | (go_at_call 9; ((with_reducible refine (wakes_any _).mono ?_); rintro e ww ⟨rfl, hb⟩; have HBW := Lib.hid hb; clear hb))
        | (go_at_call 28; ((with_reducible refine (HGS.out _).mono ?_); rintro e w2 ⟨rfl, hb⟩; clear gy12 gz0 gz1 gz2 gz3 gz4 gz5 gz6; have HX2 := Lib.hid (HX1.out.next (by simp) hb); have HY2 := Lib.hid (HY1.out.next (by simp) hb); have HZ2 := Lib.hid (HZ1.out.next (by simp) hb); have HB2 := Lib.hid (HB1.out.trans (hb.mono HB1.out.size)); clear hb; have gx0 := HX2.out.cell (j := 0) rfl; have gx1 := HX2.out.cell (j := 1) rfl; have gx2 := HX2.out.cell (j := 2) rfl; have gx3 := HX2.out.cell (j := 3) rfl; have gx4 := HX2.out.cell (j := 4) rfl; have gx5 := HX2.out.cell (j := 5) rfl; have gx6 := HX2.out.cell (j := 6) rfl; have gx7 := HX2.out.cell (j := 7) rfl; have gx8 := HX2.out.cell (j := 8) rfl; have gx9 := HX2.out.cell (j := 9) rfl; have gx10 := HX2.out.cell (j := 10) rfl; have gx11 := HX2.out.cell (j := 11) rfl; have gx12 := HX2.out.cell (j := 12) rfl; have gx13 := HX2.out.cell (j := 13) rfl))
        | (go_at_call 34; ((with_reducible refine (HGR.out _ HB0.out).mono ?_); rintro e w1 ⟨b, rfl, hb, hf⟩; have HX1 := Lib.hid (HX0.out.next (by simp) hb); have HY1 := Lib.hid (HY0.out.next (by simp) hb); have HZ1 := Lib.hid (HZ0.out.next (by simp) hb); have HB1 := Lib.hid (HB0.out.trans (hb.mono HB0.out.size)); have HFW := Lib.hid hf; clear hb hf; have gy12 := HY1.out.cell (j := 12) rfl; have gz0 := HZ1.out.cell (j := 0) rfl; have gz1 := HZ1.out.cell (j := 1) rfl; have gz2 := HZ1.out.cell (j := 2) rfl; have gz3 := HZ1.out.cell (j := 3) rfl; have gz4 := HZ1.out.cell (j := 4) rfl; have gz5 := HZ1.out.cell (j := 5) rfl; have gz6 := HZ1.out.cell (j := 6) rfl; cases b)))
      all_goals (go_returns; first | exact ⟨rfl, HB1.out.trans (HBW.out.mono HB1.out.size)⟩ | exact ⟨rfl, HB2.out.trans (HBW.out.mono HB2.out.size)⟩)
    · skip
      rw [decide_eq_false hgS] at hgs
      have HGS := Lib.hid hgs
      clear hgs
      clear hm hmz hmz2 hmp hk hkp hs hsz hsp hr hr2
      have HN := Lib.hid (And.intro hn hn2)
      clear hn hn2
      obtain ⟨m0, m1, m2, m3, m4, m5, m6, m7, m8, m9, m10, m11, m12, m13⟩ := m
      obtain ⟨pm0, pm1, pm2, pm3, pm4, pm5⟩ := pm
      obtain ⟨k0, k1, k2, k3, k4, k5, k6, k7, k8, k9, k10, k11, k12⟩ := k
      obtain ⟨pk0, pk1⟩ := pk
      obtain ⟨s0, s1, s2, s3, s4, s5, s6⟩ := s
      obtain ⟨ps0, ps1, ps2, ps3, ps4, ps5, ps6, ps7⟩ := ps
      simp only at hgK
      have HB0 : Hid (Below w.heap.size w (((w.alloc (.cells #[.int .i8 m0, .int .i64 m1, .int .i64 m2, .int .i64 m3, .int .i64 m4, .int .i64 m5, .int .i64 m6, .bool m7, .slice pm0 m8.length pm1, .int .i64 m9, .int .i64 m10, B m11, .slice pm2 m12.length pm3, .slice pm4 m13.length pm5] 67)).alloc (.cells #[.int .i8 k0, .int .i64 k1, .int .i64 k2, .int .i64 k3, .int .i64 k4, .int .i64 k5, .int .i64 k6, .int .i64 k7, .int .i64 k8, .int .i64 k9, .int .i64 k10, .bool k11, .slice pk0 k12.length pk1] 40)).alloc (.cells #[.int .i64 s0, .int .i64 s1, .int .i64 s2, .slice ps0 s3.length ps1, .slice ps2 s4.length ps3, .slice ps4 s5.length ps5, .slice ps6 s6.length ps7] 56))) := mid_alloc' (mid_alloc' (mid_alloc' (Below.refl _ _)))
      have HX0 : Hid (Box (((w.alloc (.cells #[.int .i8 m0, .int .i64 m1, .int .i64 m2, .int .i64 m3, .int .i64 m4, .int .i64 m5, .int .i64 m6, .bool m7, .slice pm0 m8.length pm1, .int .i64 m9, .int .i64 m10, B m11, .slice pm2 m12.length pm3, .slice pm4 m13.length pm5] 67)).alloc (.cells #[.int .i8 k0, .int .i64 k1, .int .i64 k2, .int .i64 k3, .int .i64 k4, .int .i64 k5, .int .i64 k6, .int .i64 k7, .int .i64 k8, .int .i64 k9, .int .i64 k10, .bool k11, .slice pk0 k12.length pk1] 40)).alloc (.cells #[.int .i64 s0, .int .i64 s1, .int .i64 s2, .slice ps0 s3.length ps1, .slice ps2 s4.length ps3, .slice ps4 s5.length ps5, .slice ps6 s6.length ps7] 56)) w.heap.size [.int .i8 m0, .int .i64 m1, .int .i64 m2, .int .i64 m3, .int .i64 m4, .int .i64 m5, .int .i64 m6, .bool m7, .slice pm0 m8.length pm1, .int .i64 m9, .int .i64 m10, B m11, .slice pm2 m12.length pm3, .slice pm4 m13.length pm5]) := Box.of_alloc (w := w) (cs := [.int .i8 m0, .int .i64 m1, .int .i64 m2, .int .i64 m3, .int .i64 m4, .int .i64 m5, .int .i64 m6, .bool m7, .slice pm0 m8.length pm1, .int .i64 m9, .int .i64 m10, B m11, .slice pm2 m12.length pm3, .slice pm4 m13.length pm5]) (t := 67) (mid_alloc' (mid_alloc' (Below.refl _ _)))
      have HY0 : Hid (Box (((w.alloc (.cells #[.int .i8 m0, .int .i64 m1, .int .i64 m2, .int .i64 m3, .int .i64 m4, .int .i64 m5, .int .i64 m6, .bool m7, .slice pm0 m8.length pm1, .int .i64 m9, .int .i64 m10, B m11, .slice pm2 m12.length pm3, .slice pm4 m13.length pm5] 67)).alloc (.cells #[.int .i8 k0, .int .i64 k1, .int .i64 k2, .int .i64 k3, .int .i64 k4, .int .i64 k5, .int .i64 k6, .int .i64 k7, .int .i64 k8, .int .i64 k9, .int .i64 k10, .bool k11, .slice pk0 k12.length pk1] 40)).alloc (.cells #[.int .i64 s0, .int .i64 s1, .int .i64 s2, .slice ps0 s3.length ps1, .slice ps2 s4.length ps3, .slice ps4 s5.length ps5, .slice ps6 s6.length ps7] 56)) (w.heap.size + 1) [.int .i8 k0, .int .i64 k1, .int .i64 k2, .int .i64 k3, .int .i64 k4, .int .i64 k5, .int .i64 k6, .int .i64 k7, .int .i64 k8, .int .i64 k9, .int .i64 k10, .bool k11, .slice pk0 k12.length pk1]) := Box.of_alloc1 (w := w) (cs := [.int .i8 k0, .int .i64 k1, .int .i64 k2, .int .i64 k3, .int .i64 k4, .int .i64 k5, .int .i64 k6, .int .i64 k7, .int .i64 k8, .int .i64 k9, .int .i64 k10, .bool k11, .slice pk0 k12.length pk1]) (t := 40) (mid_alloc' (Below.refl _ _))
      have HZ0 : Hid (Box (((w.alloc (.cells #[.int .i8 m0, .int .i64 m1, .int .i64 m2, .int .i64 m3, .int .i64 m4, .int .i64 m5, .int .i64 m6, .bool m7, .slice pm0 m8.length pm1, .int .i64 m9, .int .i64 m10, B m11, .slice pm2 m12.length pm3, .slice pm4 m13.length pm5] 67)).alloc (.cells #[.int .i8 k0, .int .i64 k1, .int .i64 k2, .int .i64 k3, .int .i64 k4, .int .i64 k5, .int .i64 k6, .int .i64 k7, .int .i64 k8, .int .i64 k9, .int .i64 k10, .bool k11, .slice pk0 k12.length pk1] 40)).alloc (.cells #[.int .i64 s0, .int .i64 s1, .int .i64 s2, .slice ps0 s3.length ps1, .slice ps2 s4.length ps3, .slice ps4 s5.length ps5, .slice ps6 s6.length ps7] 56)) (w.heap.size + 1 + 1) [.int .i64 s0, .int .i64 s1, .int .i64 s2, .slice ps0 s3.length ps1, .slice ps2 s4.length ps3, .slice ps4 s5.length ps5, .slice ps6 s6.length ps7]) := Box.of_alloc2 (w := w) (cs := [.int .i64 s0, .int .i64 s1, .int .i64 s2, .slice ps0 s3.length ps1, .slice ps2 s4.length ps3, .slice ps4 s5.length ps5, .slice ps6 s6.length ps7]) (t := 56) (Below.refl _ _)
      unfold valMsg at HGR
      unfold valSt at HGS
      unfold valMsg valCmd valSt
      simp only at HGR HGS ⊢
      have d1 : decide ((500 : Int) < (k12.length : Int)) = true := decide_eq_true (by omega)
      as_aux_lemma =>
      go_enter Try.func8, Try.ntmps8
      go_wp2_with (first
        | (go_at_call 9; ((with_reducible refine (wakes_any _).mono ?_); rintro e ww ⟨rfl, hb⟩; have HBW := Lib.hid hb; clear hb))
        | (go_at_call 28; ((with_reducible refine (HGS.out _).mono ?_); rintro e w2 ⟨rfl, hb⟩; clear gy12 gz0 gz1 gz2 gz3 gz4 gz5 gz6; have HX2 := Lib.hid (HX1.out.next (by simp) hb); have HY2 := Lib.hid (HY1.out.next (by simp) hb); have HZ2 := Lib.hid (HZ1.out.next (by simp) hb); have HB2 := Lib.hid (HB1.out.trans (hb.mono HB1.out.size)); clear hb; have gx0 := HX2.out.cell (j := 0) rfl; have gx1 := HX2.out.cell (j := 1) rfl; have gx2 := HX2.out.cell (j := 2) rfl; have gx3 := HX2.out.cell (j := 3) rfl; have gx4 := HX2.out.cell (j := 4) rfl; have gx5 := HX2.out.cell (j := 5) rfl; have gx6 := HX2.out.cell (j := 6) rfl; have gx7 := HX2.out.cell (j := 7) rfl; have gx8 := HX2.out.cell (j := 8) rfl; have gx9 := HX2.out.cell (j := 9) rfl; have gx10 := HX2.out.cell (j := 10) rfl; have gx11 := HX2.out.cell (j := 11) rfl; have gx12 := HX2.out.cell (j := 12) rfl; have gx13 := HX2.out.cell (j := 13) rfl))
        | (go_at_call 34; ((with_reducible refine (HGR.out _ HB0.out).mono ?_); rintro e w1 ⟨b, rfl, hb, hf⟩; have HX1 := Lib.hid (HX0.out.next (by simp) hb); have HY1 := Lib.hid (HY0.out.next (by simp) hb); have HZ1 := Lib.hid (HZ0.out.next (by simp) hb); have HB1 := Lib.hid (HB0.out.trans (hb.mono HB0.out.size)); have HFW := Lib.hid hf; clear hb hf; have gy12 := HY1.out.cell (j := 12) rfl; have gz0 := HZ1.out.cell (j := 0) rfl; have gz1 := HZ1.out.cell (j := 1) rfl; have gz2 := HZ1.out.cell (j := 2) rfl; have gz3 := HZ1.out.cell (j := 3) rfl; have gz4 := HZ1.out.cell (j := 4) rfl; have gz5 := HZ1.out.cell (j := 5) rfl; have gz6 := HZ1.out.cell (j := 6) rfl; cases b)))
      all_goals (go_returns; first | exact ⟨rfl, HB1.out.trans (HBW.out.mono HB1.out.size)⟩ | exact ⟨rfl, HB2.out.trans (HBW.out.mono HB2.out.size)⟩)
  by_cases hgS : 300 < s.tens.length + s.leas.length + s.sess.length + s.dsks.length
  · skip
    rw [decide_eq_true hgS] at hgs
    have HGS := Lib.hid hgs
    clear hgs
    clear hm hmz hmz2 hmp hk hkp hs hsz hsp hr hr2
    have HN := Lib.hid (And.intro hn hn2)
    clear hn hn2
    obtain ⟨m0, m1, m2, m3, m4, m5, m6, m7, m8, m9, m10, m11, m12, m13⟩ := m
    obtain ⟨pm0, pm1, pm2, pm3, pm4, pm5⟩ := pm
    obtain ⟨k0, k1, k2, k3, k4, k5, k6, k7, k8, k9, k10, k11, k12⟩ := k
    obtain ⟨pk0, pk1⟩ := pk
    obtain ⟨s0, s1, s2, s3, s4, s5, s6⟩ := s
    obtain ⟨ps0, ps1, ps2, ps3, ps4, ps5, ps6, ps7⟩ := ps
    simp only at hgK
    have HB0 : Hid (Below w.heap.size w (((w.alloc (.cells #[.int .i8 m0, .int .i64 m1, .int .i64 m2, .int .i64 m3, .int .i64 m4, .int .i64 m5, .int .i64 m6, .bool m7, .slice pm0 m8.length pm1, .int .i64 m9, .int .i64 m10, B m11, .slice pm2 m12.length pm3, .slice pm4 m13.length pm5] 67)).alloc (.cells #[.int .i8 k0, .int .i64 k1, .int .i64 k2, .int .i64 k3, .int .i64 k4, .int .i64 k5, .int .i64 k6, .int .i64 k7, .int .i64 k8, .int .i64 k9, .int .i64 k10, .bool k11, .slice pk0 k12.length pk1] 40)).alloc (.cells #[.int .i64 s0, .int .i64 s1, .int .i64 s2, .slice ps0 s3.length ps1, .slice ps2 s4.length ps3, .slice ps4 s5.length ps5, .slice ps6 s6.length ps7] 56))) := mid_alloc' (mid_alloc' (mid_alloc' (Below.refl _ _)))
    have HX0 : Hid (Box (((w.alloc (.cells #[.int .i8 m0, .int .i64 m1, .int .i64 m2, .int .i64 m3, .int .i64 m4, .int .i64 m5, .int .i64 m6, .bool m7, .slice pm0 m8.length pm1, .int .i64 m9, .int .i64 m10, B m11, .slice pm2 m12.length pm3, .slice pm4 m13.length pm5] 67)).alloc (.cells #[.int .i8 k0, .int .i64 k1, .int .i64 k2, .int .i64 k3, .int .i64 k4, .int .i64 k5, .int .i64 k6, .int .i64 k7, .int .i64 k8, .int .i64 k9, .int .i64 k10, .bool k11, .slice pk0 k12.length pk1] 40)).alloc (.cells #[.int .i64 s0, .int .i64 s1, .int .i64 s2, .slice ps0 s3.length ps1, .slice ps2 s4.length ps3, .slice ps4 s5.length ps5, .slice ps6 s6.length ps7] 56)) w.heap.size [.int .i8 m0, .int .i64 m1, .int .i64 m2, .int .i64 m3, .int .i64 m4, .int .i64 m5, .int .i64 m6, .bool m7, .slice pm0 m8.length pm1, .int .i64 m9, .int .i64 m10, B m11, .slice pm2 m12.length pm3, .slice pm4 m13.length pm5]) := Box.of_alloc (w := w) (cs := [.int .i8 m0, .int .i64 m1, .int .i64 m2, .int .i64 m3, .int .i64 m4, .int .i64 m5, .int .i64 m6, .bool m7, .slice pm0 m8.length pm1, .int .i64 m9, .int .i64 m10, B m11, .slice pm2 m12.length pm3, .slice pm4 m13.length pm5]) (t := 67) (mid_alloc' (mid_alloc' (Below.refl _ _)))
    have HY0 : Hid (Box (((w.alloc (.cells #[.int .i8 m0, .int .i64 m1, .int .i64 m2, .int .i64 m3, .int .i64 m4, .int .i64 m5, .int .i64 m6, .bool m7, .slice pm0 m8.length pm1, .int .i64 m9, .int .i64 m10, B m11, .slice pm2 m12.length pm3, .slice pm4 m13.length pm5] 67)).alloc (.cells #[.int .i8 k0, .int .i64 k1, .int .i64 k2, .int .i64 k3, .int .i64 k4, .int .i64 k5, .int .i64 k6, .int .i64 k7, .int .i64 k8, .int .i64 k9, .int .i64 k10, .bool k11, .slice pk0 k12.length pk1] 40)).alloc (.cells #[.int .i64 s0, .int .i64 s1, .int .i64 s2, .slice ps0 s3.length ps1, .slice ps2 s4.length ps3, .slice ps4 s5.length ps5, .slice ps6 s6.length ps7] 56)) (w.heap.size + 1) [.int .i8 k0, .int .i64 k1, .int .i64 k2, .int .i64 k3, .int .i64 k4, .int .i64 k5, .int .i64 k6, .int .i64 k7, .int .i64 k8, .int .i64 k9, .int .i64 k10, .bool k11, .slice pk0 k12.length pk1]) := Box.of_alloc1 (w := w) (cs := [.int .i8 k0, .int .i64 k1, .int .i64 k2, .int .i64 k3, .int .i64 k4, .int .i64 k5, .int .i64 k6, .int .i64 k7, .int .i64 k8, .int .i64 k9, .int .i64 k10, .bool k11, .slice pk0 k12.length pk1]) (t := 40) (mid_alloc' (Below.refl _ _))
    have HZ0 : Hid (Box (((w.alloc (.cells #[.int .i8 m0, .int .i64 m1, .int .i64 m2, .int .i64 m3, .int .i64 m4, .int .i64 m5, .int .i64 m6, .bool m7, .slice pm0 m8.length pm1, .int .i64 m9, .int .i64 m10, B m11, .slice pm2 m12.length pm3, .slice pm4 m13.length pm5] 67)).alloc (.cells #[.int .i8 k0, .int .i64 k1, .int .i64 k2, .int .i64 k3, .int .i64 k4, .int .i64 k5, .int .i64 k6, .int .i64 k7, .int .i64 k8, .int .i64 k9, .int .i64 k10, .bool k11, .slice pk0 k12.length pk1] 40)).alloc (.cells #[.int .i64 s0, .int .i64 s1, .int .i64 s2, .slice ps0 s3.length ps1, .slice ps2 s4.length ps3, .slice ps4 s5.length ps5, .slice ps6 s6.length ps7] 56)) (w.heap.size + 1 + 1) [.int .i64 s0, .int .i64 s1, .int .i64 s2, .slice ps0 s3.length ps1, .slice ps2 s4.length ps3, .slice ps4 s5.length ps5, .slice ps6 s6.length ps7]) := Box.of_alloc2 (w := w) (cs := [.int .i64 s0, .int .i64 s1, .int .i64 s2, .slice ps0 s3.length ps1, .slice ps2 s4.length ps3, .slice ps4 s5.length ps5, .slice ps6 s6.length ps7]) (t := 56) (Below.refl _ _)
    unfold valMsg at HGR
    unfold valSt at HGS
    unfold valMsg valCmd valSt
    simp only at HGR HGS ⊢
    have d1 : decide ((500 : Int) < (k12.length : Int)) = false := decide_eq_false (by omega)
    as_aux_lemma =>
    go_enter Try.func8, Try.ntmps8
    go_wp2_with (first
      | (go_at_call 9; ((with_reducible refine (wakes_any _).mono ?_); rintro e ww ⟨rfl, hb⟩; have HBW := Lib.hid hb; clear hb))
      | (go_at_call 28; ((with_reducible refine (HGS.out _).mono ?_); rintro e w2 ⟨rfl, hb⟩; clear gy12 gz0 gz1 gz2 gz3 gz4 gz5 gz6; have HX2 := Lib.hid (HX1.out.next (by simp) hb); have HY2 := Lib.hid (HY1.out.next (by simp) hb); have HZ2 := Lib.hid (HZ1.out.next (by simp) hb); have HB2 := Lib.hid (HB1.out.trans (hb.mono HB1.out.size)); clear hb; have gx0 := HX2.out.cell (j := 0) rfl; have gx1 := HX2.out.cell (j := 1) rfl; have gx2 := HX2.out.cell (j := 2) rfl; have gx3 := HX2.out.cell (j := 3) rfl; have gx4 := HX2.out.cell (j := 4) rfl; have gx5 := HX2.out.cell (j := 5) rfl; have gx6 := HX2.out.cell (j := 6) rfl; have gx7 := HX2.out.cell (j := 7) rfl; have gx8 := HX2.out.cell (j := 8) rfl; have gx9 := HX2.out.cell (j := 9) rfl; have gx10 := HX2.out.cell (j := 10) rfl; have gx11 := HX2.out.cell (j := 11) rfl; have gx12 := HX2.out.cell (j := 12) rfl; have gx13 := HX2.out.cell (j := 13) rfl))
      | (go_at_call 34; ((with_reducible refine (HGR.out _ HB0.out).mono ?_); rintro e w1 ⟨b, rfl, hb, hf⟩; have HX1 := Lib.hid (HX0.out.next (by simp) hb); have HY1 := Lib.hid (HY0.out.next (by simp) hb); have HZ1 := Lib.hid (HZ0.out.next (by simp) hb); have HB1 := Lib.hid (HB0.out.trans (hb.mono HB0.out.size)); have HFW := Lib.hid hf; clear hb hf; have gy12 := HY1.out.cell (j := 12) rfl; have gz0 := HZ1.out.cell (j := 0) rfl; have gz1 := HZ1.out.cell (j := 1) rfl; have gz2 := HZ1.out.cell (j := 2) rfl; have gz3 := HZ1.out.cell (j := 3) rfl; have gz4 := HZ1.out.cell (j := 4) rfl; have gz5 := HZ1.out.cell (j := 5) rfl; have gz6 := HZ1.out.cell (j := 6) rfl; cases b)))
    all_goals (go_returns; first | exact ⟨rfl, HB1.out.trans (HBW.out.mono HB1.out.size)⟩ | exact ⟨rfl, HB2.out.trans (HBW.out.mono HB2.out.size)⟩)
  by_cases hgN : 8000 < n
  · skip
    rw [decide_eq_false hgS] at hgs
    have HGS := Lib.hid hgs
    clear hgs
    clear hm hmz hmz2 hmp hk hkp hs hsz hsp hr hr2
    have HN := Lib.hid (And.intro hn hn2)
    clear hn hn2
    obtain ⟨m0, m1, m2, m3, m4, m5, m6, m7, m8, m9, m10, m11, m12, m13⟩ := m
    obtain ⟨pm0, pm1, pm2, pm3, pm4, pm5⟩ := pm
    obtain ⟨k0, k1, k2, k3, k4, k5, k6, k7, k8, k9, k10, k11, k12⟩ := k
    obtain ⟨pk0, pk1⟩ := pk
    obtain ⟨s0, s1, s2, s3, s4, s5, s6⟩ := s
    obtain ⟨ps0, ps1, ps2, ps3, ps4, ps5, ps6, ps7⟩ := ps
    simp only at hgK
    have HB0 : Hid (Below w.heap.size w (((w.alloc (.cells #[.int .i8 m0, .int .i64 m1, .int .i64 m2, .int .i64 m3, .int .i64 m4, .int .i64 m5, .int .i64 m6, .bool m7, .slice pm0 m8.length pm1, .int .i64 m9, .int .i64 m10, B m11, .slice pm2 m12.length pm3, .slice pm4 m13.length pm5] 67)).alloc (.cells #[.int .i8 k0, .int .i64 k1, .int .i64 k2, .int .i64 k3, .int .i64 k4, .int .i64 k5, .int .i64 k6, .int .i64 k7, .int .i64 k8, .int .i64 k9, .int .i64 k10, .bool k11, .slice pk0 k12.length pk1] 40)).alloc (.cells #[.int .i64 s0, .int .i64 s1, .int .i64 s2, .slice ps0 s3.length ps1, .slice ps2 s4.length ps3, .slice ps4 s5.length ps5, .slice ps6 s6.length ps7] 56))) := mid_alloc' (mid_alloc' (mid_alloc' (Below.refl _ _)))
    have HX0 : Hid (Box (((w.alloc (.cells #[.int .i8 m0, .int .i64 m1, .int .i64 m2, .int .i64 m3, .int .i64 m4, .int .i64 m5, .int .i64 m6, .bool m7, .slice pm0 m8.length pm1, .int .i64 m9, .int .i64 m10, B m11, .slice pm2 m12.length pm3, .slice pm4 m13.length pm5] 67)).alloc (.cells #[.int .i8 k0, .int .i64 k1, .int .i64 k2, .int .i64 k3, .int .i64 k4, .int .i64 k5, .int .i64 k6, .int .i64 k7, .int .i64 k8, .int .i64 k9, .int .i64 k10, .bool k11, .slice pk0 k12.length pk1] 40)).alloc (.cells #[.int .i64 s0, .int .i64 s1, .int .i64 s2, .slice ps0 s3.length ps1, .slice ps2 s4.length ps3, .slice ps4 s5.length ps5, .slice ps6 s6.length ps7] 56)) w.heap.size [.int .i8 m0, .int .i64 m1, .int .i64 m2, .int .i64 m3, .int .i64 m4, .int .i64 m5, .int .i64 m6, .bool m7, .slice pm0 m8.length pm1, .int .i64 m9, .int .i64 m10, B m11, .slice pm2 m12.length pm3, .slice pm4 m13.length pm5]) := Box.of_alloc (w := w) (cs := [.int .i8 m0, .int .i64 m1, .int .i64 m2, .int .i64 m3, .int .i64 m4, .int .i64 m5, .int .i64 m6, .bool m7, .slice pm0 m8.length pm1, .int .i64 m9, .int .i64 m10, B m11, .slice pm2 m12.length pm3, .slice pm4 m13.length pm5]) (t := 67) (mid_alloc' (mid_alloc' (Below.refl _ _)))
    have HY0 : Hid (Box (((w.alloc (.cells #[.int .i8 m0, .int .i64 m1, .int .i64 m2, .int .i64 m3, .int .i64 m4, .int .i64 m5, .int .i64 m6, .bool m7, .slice pm0 m8.length pm1, .int .i64 m9, .int .i64 m10, B m11, .slice pm2 m12.length pm3, .slice pm4 m13.length pm5] 67)).alloc (.cells #[.int .i8 k0, .int .i64 k1, .int .i64 k2, .int .i64 k3, .int .i64 k4, .int .i64 k5, .int .i64 k6, .int .i64 k7, .int .i64 k8, .int .i64 k9, .int .i64 k10, .bool k11, .slice pk0 k12.length pk1] 40)).alloc (.cells #[.int .i64 s0, .int .i64 s1, .int .i64 s2, .slice ps0 s3.length ps1, .slice ps2 s4.length ps3, .slice ps4 s5.length ps5, .slice ps6 s6.length ps7] 56)) (w.heap.size + 1) [.int .i8 k0, .int .i64 k1, .int .i64 k2, .int .i64 k3, .int .i64 k4, .int .i64 k5, .int .i64 k6, .int .i64 k7, .int .i64 k8, .int .i64 k9, .int .i64 k10, .bool k11, .slice pk0 k12.length pk1]) := Box.of_alloc1 (w := w) (cs := [.int .i8 k0, .int .i64 k1, .int .i64 k2, .int .i64 k3, .int .i64 k4, .int .i64 k5, .int .i64 k6, .int .i64 k7, .int .i64 k8, .int .i64 k9, .int .i64 k10, .bool k11, .slice pk0 k12.length pk1]) (t := 40) (mid_alloc' (Below.refl _ _))
    have HZ0 : Hid (Box (((w.alloc (.cells #[.int .i8 m0, .int .i64 m1, .int .i64 m2, .int .i64 m3, .int .i64 m4, .int .i64 m5, .int .i64 m6, .bool m7, .slice pm0 m8.length pm1, .int .i64 m9, .int .i64 m10, B m11, .slice pm2 m12.length pm3, .slice pm4 m13.length pm5] 67)).alloc (.cells #[.int .i8 k0, .int .i64 k1, .int .i64 k2, .int .i64 k3, .int .i64 k4, .int .i64 k5, .int .i64 k6, .int .i64 k7, .int .i64 k8, .int .i64 k9, .int .i64 k10, .bool k11, .slice pk0 k12.length pk1] 40)).alloc (.cells #[.int .i64 s0, .int .i64 s1, .int .i64 s2, .slice ps0 s3.length ps1, .slice ps2 s4.length ps3, .slice ps4 s5.length ps5, .slice ps6 s6.length ps7] 56)) (w.heap.size + 1 + 1) [.int .i64 s0, .int .i64 s1, .int .i64 s2, .slice ps0 s3.length ps1, .slice ps2 s4.length ps3, .slice ps4 s5.length ps5, .slice ps6 s6.length ps7]) := Box.of_alloc2 (w := w) (cs := [.int .i64 s0, .int .i64 s1, .int .i64 s2, .slice ps0 s3.length ps1, .slice ps2 s4.length ps3, .slice ps4 s5.length ps5, .slice ps6 s6.length ps7]) (t := 56) (Below.refl _ _)
    unfold valMsg at HGR
    unfold valSt at HGS
    unfold valMsg valCmd valSt
    simp only at HGR HGS ⊢
    have d1 : decide ((500 : Int) < (k12.length : Int)) = false := decide_eq_false (by omega)
    have d2 : decide ((8000 : Int) < (n : Int)) = true := decide_eq_true (by omega)
    as_aux_lemma =>
    go_enter Try.func8, Try.ntmps8
    go_wp2_with (first
      | (go_at_call 9; ((with_reducible refine (wakes_any _).mono ?_); rintro e ww ⟨rfl, hb⟩; have HBW := Lib.hid hb; clear hb))
      | (go_at_call 28; ((with_reducible refine (HGS.out _).mono ?_); rintro e w2 ⟨rfl, hb⟩; clear gy12 gz0 gz1 gz2 gz3 gz4 gz5 gz6; have HX2 := Lib.hid (HX1.out.next (by simp) hb); have HY2 := Lib.hid (HY1.out.next (by simp) hb); have HZ2 := Lib.hid (HZ1.out.next (by simp) hb); have HB2 := Lib.hid (HB1.out.trans (hb.mono HB1.out.size)); clear hb; have gx0 := HX2.out.cell (j := 0) rfl; have gx1 := HX2.out.cell (j := 1) rfl; have gx2 := HX2.out.cell (j := 2) rfl; have gx3 := HX2.out.cell (j := 3) rfl; have gx4 := HX2.out.cell (j := 4) rfl; have gx5 := HX2.out.cell (j := 5) rfl; have gx6 := HX2.out.cell (j := 6) rfl; have gx7 := HX2.out.cell (j := 7) rfl; have gx8 := HX2.out.cell (j := 8) rfl; have gx9 := HX2.out.cell (j := 9) rfl; have gx10 := HX2.out.cell (j := 10) rfl; have gx11 := HX2.out.cell (j := 11) rfl; have gx12 := HX2.out.cell (j := 12) rfl; have gx13 := HX2.out.cell (j := 13) rfl))
      | (go_at_call 34; ((with_reducible refine (HGR.out _ HB0.out).mono ?_); rintro e w1 ⟨b, rfl, hb, hf⟩; have HX1 := Lib.hid (HX0.out.next (by simp) hb); have HY1 := Lib.hid (HY0.out.next (by simp) hb); have HZ1 := Lib.hid (HZ0.out.next (by simp) hb); have HB1 := Lib.hid (HB0.out.trans (hb.mono HB0.out.size)); have HFW := Lib.hid hf; clear hb hf; have gy12 := HY1.out.cell (j := 12) rfl; have gz0 := HZ1.out.cell (j := 0) rfl; have gz1 := HZ1.out.cell (j := 1) rfl; have gz2 := HZ1.out.cell (j := 2) rfl; have gz3 := HZ1.out.cell (j := 3) rfl; have gz4 := HZ1.out.cell (j := 4) rfl; have gz5 := HZ1.out.cell (j := 5) rfl; have gz6 := HZ1.out.cell (j := 6) rfl; cases b)))
    all_goals (go_returns; first | exact ⟨rfl, HB1.out.trans (HBW.out.mono HB1.out.size)⟩ | exact ⟨rfl, HB2.out.trans (HBW.out.mono HB2.out.size)⟩)
  by_cases hgM : 1000 < n2
  · skip
    rw [decide_eq_false hgS] at hgs
    have HGS := Lib.hid hgs
    clear hgs
    clear hm hmz hmz2 hmp hk hkp hs hsz hsp hr hr2
    have HN := Lib.hid (And.intro hn hn2)
    clear hn hn2
    obtain ⟨m0, m1, m2, m3, m4, m5, m6, m7, m8, m9, m10, m11, m12, m13⟩ := m
    obtain ⟨pm0, pm1, pm2, pm3, pm4, pm5⟩ := pm
    obtain ⟨k0, k1, k2, k3, k4, k5, k6, k7, k8, k9, k10, k11, k12⟩ := k
    obtain ⟨pk0, pk1⟩ := pk
    obtain ⟨s0, s1, s2, s3, s4, s5, s6⟩ := s
    obtain ⟨ps0, ps1, ps2, ps3, ps4, ps5, ps6, ps7⟩ := ps
    simp only at hgK
    have HB0 : Hid (Below w.heap.size w (((w.alloc (.cells #[.int .i8 m0, .int .i64 m1, .int .i64 m2, .int .i64 m3, .int .i64 m4, .int .i64 m5, .int .i64 m6, .bool m7, .slice pm0 m8.length pm1, .int .i64 m9, .int .i64 m10, B m11, .slice pm2 m12.length pm3, .slice pm4 m13.length pm5] 67)).alloc (.cells #[.int .i8 k0, .int .i64 k1, .int .i64 k2, .int .i64 k3, .int .i64 k4, .int .i64 k5, .int .i64 k6, .int .i64 k7, .int .i64 k8, .int .i64 k9, .int .i64 k10, .bool k11, .slice pk0 k12.length pk1] 40)).alloc (.cells #[.int .i64 s0, .int .i64 s1, .int .i64 s2, .slice ps0 s3.length ps1, .slice ps2 s4.length ps3, .slice ps4 s5.length ps5, .slice ps6 s6.length ps7] 56))) := mid_alloc' (mid_alloc' (mid_alloc' (Below.refl _ _)))
    have HX0 : Hid (Box (((w.alloc (.cells #[.int .i8 m0, .int .i64 m1, .int .i64 m2, .int .i64 m3, .int .i64 m4, .int .i64 m5, .int .i64 m6, .bool m7, .slice pm0 m8.length pm1, .int .i64 m9, .int .i64 m10, B m11, .slice pm2 m12.length pm3, .slice pm4 m13.length pm5] 67)).alloc (.cells #[.int .i8 k0, .int .i64 k1, .int .i64 k2, .int .i64 k3, .int .i64 k4, .int .i64 k5, .int .i64 k6, .int .i64 k7, .int .i64 k8, .int .i64 k9, .int .i64 k10, .bool k11, .slice pk0 k12.length pk1] 40)).alloc (.cells #[.int .i64 s0, .int .i64 s1, .int .i64 s2, .slice ps0 s3.length ps1, .slice ps2 s4.length ps3, .slice ps4 s5.length ps5, .slice ps6 s6.length ps7] 56)) w.heap.size [.int .i8 m0, .int .i64 m1, .int .i64 m2, .int .i64 m3, .int .i64 m4, .int .i64 m5, .int .i64 m6, .bool m7, .slice pm0 m8.length pm1, .int .i64 m9, .int .i64 m10, B m11, .slice pm2 m12.length pm3, .slice pm4 m13.length pm5]) := Box.of_alloc (w := w) (cs := [.int .i8 m0, .int .i64 m1, .int .i64 m2, .int .i64 m3, .int .i64 m4, .int .i64 m5, .int .i64 m6, .bool m7, .slice pm0 m8.length pm1, .int .i64 m9, .int .i64 m10, B m11, .slice pm2 m12.length pm3, .slice pm4 m13.length pm5]) (t := 67) (mid_alloc' (mid_alloc' (Below.refl _ _)))
    have HY0 : Hid (Box (((w.alloc (.cells #[.int .i8 m0, .int .i64 m1, .int .i64 m2, .int .i64 m3, .int .i64 m4, .int .i64 m5, .int .i64 m6, .bool m7, .slice pm0 m8.length pm1, .int .i64 m9, .int .i64 m10, B m11, .slice pm2 m12.length pm3, .slice pm4 m13.length pm5] 67)).alloc (.cells #[.int .i8 k0, .int .i64 k1, .int .i64 k2, .int .i64 k3, .int .i64 k4, .int .i64 k5, .int .i64 k6, .int .i64 k7, .int .i64 k8, .int .i64 k9, .int .i64 k10, .bool k11, .slice pk0 k12.length pk1] 40)).alloc (.cells #[.int .i64 s0, .int .i64 s1, .int .i64 s2, .slice ps0 s3.length ps1, .slice ps2 s4.length ps3, .slice ps4 s5.length ps5, .slice ps6 s6.length ps7] 56)) (w.heap.size + 1) [.int .i8 k0, .int .i64 k1, .int .i64 k2, .int .i64 k3, .int .i64 k4, .int .i64 k5, .int .i64 k6, .int .i64 k7, .int .i64 k8, .int .i64 k9, .int .i64 k10, .bool k11, .slice pk0 k12.length pk1]) := Box.of_alloc1 (w := w) (cs := [.int .i8 k0, .int .i64 k1, .int .i64 k2, .int .i64 k3, .int .i64 k4, .int .i64 k5, .int .i64 k6, .int .i64 k7, .int .i64 k8, .int .i64 k9, .int .i64 k10, .bool k11, .slice pk0 k12.length pk1]) (t := 40) (mid_alloc' (Below.refl _ _))
    have HZ0 : Hid (Box (((w.alloc (.cells #[.int .i8 m0, .int .i64 m1, .int .i64 m2, .int .i64 m3, .int .i64 m4, .int .i64 m5, .int .i64 m6, .bool m7, .slice pm0 m8.length pm1, .int .i64 m9, .int .i64 m10, B m11, .slice pm2 m12.length pm3, .slice pm4 m13.length pm5] 67)).alloc (.cells #[.int .i8 k0, .int .i64 k1, .int .i64 k2, .int .i64 k3, .int .i64 k4, .int .i64 k5, .int .i64 k6, .int .i64 k7, .int .i64 k8, .int .i64 k9, .int .i64 k10, .bool k11, .slice pk0 k12.length pk1] 40)).alloc (.cells #[.int .i64 s0, .int .i64 s1, .int .i64 s2, .slice ps0 s3.length ps1, .slice ps2 s4.length ps3, .slice ps4 s5.length ps5, .slice ps6 s6.length ps7] 56)) (w.heap.size + 1 + 1) [.int .i64 s0, .int .i64 s1, .int .i64 s2, .slice ps0 s3.length ps1, .slice ps2 s4.length ps3, .slice ps4 s5.length ps5, .slice ps6 s6.length ps7]) := Box.of_alloc2 (w := w) (cs := [.int .i64 s0, .int .i64 s1, .int .i64 s2, .slice ps0 s3.length ps1, .slice ps2 s4.length ps3, .slice ps4 s5.length ps5, .slice ps6 s6.length ps7]) (t := 56) (Below.refl _ _)
    unfold valMsg at HGR
    unfold valSt at HGS
    unfold valMsg valCmd valSt
    simp only at HGR HGS ⊢
    have d1 : decide ((500 : Int) < (k12.length : Int)) = false := decide_eq_false (by omega)
    have d2 : decide ((8000 : Int) < (n : Int)) = false := decide_eq_false (by omega)
    have d3 : decide ((1000 : Int) < (n2 : Int)) = true := decide_eq_true (by omega)
    as_aux_lemma =>
    go_enter Try.func8, Try.ntmps8
    go_wp2_with (first
      | (go_at_call 9; ((with_reducible refine (wakes_any _).mono ?_); rintro e ww ⟨rfl, hb⟩; have HBW := Lib.hid hb; clear hb))
      | (go_at_call 28; ((with_reducible refine (HGS.out _).mono ?_); rintro e w2 ⟨rfl, hb⟩; clear gy12 gz0 gz1 gz2 gz3 gz4 gz5 gz6; have HX2 := Lib.hid (HX1.out.next (by simp) hb); have HY2 := Lib.hid (HY1.out.next (by simp) hb); have HZ2 := Lib.hid (HZ1.out.next (by simp) hb); have HB2 := Lib.hid (HB1.out.trans (hb.mono HB1.out.size)); clear hb; have gx0 := HX2.out.cell (j := 0) rfl; have gx1 := HX2.out.cell (j := 1) rfl; have gx2 := HX2.out.cell (j := 2) rfl; have gx3 := HX2.out.cell (j := 3) rfl; have gx4 := HX2.out.cell (j := 4) rfl; have gx5 := HX2.out.cell (j := 5) rfl; have gx6 := HX2.out.cell (j := 6) rfl; have gx7 := HX2.out.cell (j := 7) rfl; have gx8 := HX2.out.cell (j := 8) rfl; have gx9 := HX2.out.cell (j := 9) rfl; have gx10 := HX2.out.cell (j := 10) rfl; have gx11 := HX2.out.cell (j := 11) rfl; have gx12 := HX2.out.cell (j := 12) rfl; have gx13 := HX2.out.cell (j := 13) rfl))
      | (go_at_call 34; ((with_reducible refine (HGR.out _ HB0.out).mono ?_); rintro e w1 ⟨b, rfl, hb, hf⟩; have HX1 := Lib.hid (HX0.out.next (by simp) hb); have HY1 := Lib.hid (HY0.out.next (by simp) hb); have HZ1 := Lib.hid (HZ0.out.next (by simp) hb); have HB1 := Lib.hid (HB0.out.trans (hb.mono HB0.out.size)); have HFW := Lib.hid hf; clear hb hf; have gy12 := HY1.out.cell (j := 12) rfl; have gz0 := HZ1.out.cell (j := 0) rfl; have gz1 := HZ1.out.cell (j := 1) rfl; have gz2 := HZ1.out.cell (j := 2) rfl; have gz3 := HZ1.out.cell (j := 3) rfl; have gz4 := HZ1.out.cell (j := 4) rfl; have gz5 := HZ1.out.cell (j := 5) rfl; have gz6 := HZ1.out.cell (j := 6) rfl; cases b)))
    all_goals (go_returns; first | exact ⟨rfl, HB1.out.trans (HBW.out.mono HB1.out.size)⟩ | exact ⟨rfl, HB2.out.trans (HBW.out.mono HB2.out.size)⟩)
  subst hn hn2
  rw [decide_eq_false hgS] at hgs
  have HGS := Lib.hid hgs
  clear hgs
  have hokC : OkCmd k := ok_cmd hk (by omega)
  have hokS : OkSt s := ok_st (by omega)
  obtain ⟨i0, hi0⟩ : ∃ i0 : Nat, i0 = 0 := ⟨0, rfl⟩
  have HMP := Lib.hid (fun w' (hb : Below w.heap.size w w') => (hmp.up hb.size hb).rows)
  have HKP := Lib.hid (fun w' (hb : Below w.heap.size w w') => (hkp.up hb.size hb).row.row)
  have HSP := Lib.hid (fun w' (hb : Below w.heap.size w w') => hsp.up hb.size hb)
  have HOKM := Lib.hid (fun (h : Few m) => h.ok hm)
  have HEM := Lib.hid (fun (hok : OkMsg m) w' (hb : Below w.heap.size w w') => message_bytes m pm w' (hmp.up hb.size hb) hok)
  have HEC := Lib.hid (fun w' (hb : Below w.heap.size w w') => command_bytes k pk w' (hkp.up hb.size hb) hokC)
  have HES := Lib.hid (fun w' (hb : Below w.heap.size w w') => state_bytes s ps w' (hsp.up hb.size hb) hokS)
  have HRM : Hid (∀ (_ : OkMsg m) a c w', RowB w' a (encWMsg m) → (encWMsg m).length ≤ c → Calls Try.prog 35 #[.slice a (encWMsg m).length c] w' (RetRdMsg w' (m, i0, 0))) := fun hok a c w' hr hc => by
    have h := readmessage_any a c _ w' hr hc (by have := hok.size; omega)
    rw [read_written (wMsg_reads hm) (by have := hok.size; omega)] at h
    rw [hi0]; exact h
  have HRC : Hid (∀ a c w', RowB w' a (encWCmd k) → (encWCmd k).length ≤ c → Calls Try.prog 19 #[.slice a (encWCmd k).length c] w' (RetRdCmd w' (k, i0, 0))) := fun a c w' hr hc => by
    have h := readcommand_any a c _ w' hr hc (by have := hokC.size; omega)
    rw [read_written (wCmd_reads hk) (by have := hokC.size; omega)] at h
    rw [hi0]; exact h
  have HRS : Hid (∀ a c w', RowB w' a (encWSt s) → (encWSt s).length ≤ c → Calls Try.prog 29 #[.slice a (encWSt s).length c] w' (RetRdSt w' (s, i0, 0))) := fun a c w' hr hc => by
    have h := readstate_any a c _ w' hr hc (by have := hokS.size; omega)
    rw [read_written (wSt_reads hs) (by have := hokS.size; omega)] at h
    rw [hi0]; exact h
  have HRDM := Lib.hid (fun w' (hb : Below w.heap.size w w') => readmessage_any a c l w' (hr.below hb) hc (by omega))
  have HRDS := Lib.hid (fun w' (hb : Below w.heap.size w w') => readstate_any a c l w' (hr.below hb) hc (by omega))
  have HKM := Lib.hid (fun x i h => ok_msg_read (l := l) (x := x) (i := i) (by omega) h)
  have HKS := Lib.hid (fun x i h => ok_st_read (l := l) (x := x) (i := i) (by omega) h)
  have HSL : Hid (s.tens.length ≤ 1000000 ∧ s.leas.length ≤ 1000000 ∧ s.sess.length ≤ 1000000 ∧ s.dsks.length ≤ 1000000) := ⟨by omega, by omega, by omega, by omega⟩
  have HKL : Hid (k.leases.length ≤ 1000000) := Lib.hid (by omega)
  have HFR := Lib.hid (fun w' (hb : Below w.heap.size w w') => frame_any a l l.length c w' rfl (by omega) (hr.below hb))
  have HFL := Lib.hid (frameL_length l)
  have HUN := Lib.hid (unframe_frame l l2 (by omega))
  have HROW := Lib.hid (fun w' (hb : Below w.heap.size w w') => hr.below hb)
  have HROW2 := Lib.hid (fun w' (hb : Below w.heap.size w w') => hr2.below hb)
  have HC := Lib.hid (And.intro hc hc2)
  clear hm hmz hmz2 hmp hk hkp hs hsz hsp hc hr hc2 hr2 hi0 hokC hokS hgS
  generalize encWMsg m = LM at HEM HRM
  generalize encWCmd k = LC at HEC HRC
  generalize encWSt s = LS at HES HRS
  generalize frameL l = FL at HFR HFL HUN
  obtain ⟨m0, m1, m2, m3, m4, m5, m6, m7, m8, m9, m10, m11, m12, m13⟩ := m
  obtain ⟨pm0, pm1, pm2, pm3, pm4, pm5⟩ := pm
  obtain ⟨k0, k1, k2, k3, k4, k5, k6, k7, k8, k9, k10, k11, k12⟩ := k
  obtain ⟨pk0, pk1⟩ := pk
  obtain ⟨s0, s1, s2, s3, s4, s5, s6⟩ := s
  obtain ⟨ps0, ps1, ps2, ps3, ps4, ps5, ps6, ps7⟩ := ps
  simp only at hgK
  have HB0 : Hid (Below w.heap.size w (((w.alloc (.cells #[.int .i8 m0, .int .i64 m1, .int .i64 m2, .int .i64 m3, .int .i64 m4, .int .i64 m5, .int .i64 m6, .bool m7, .slice pm0 m8.length pm1, .int .i64 m9, .int .i64 m10, B m11, .slice pm2 m12.length pm3, .slice pm4 m13.length pm5] 67)).alloc (.cells #[.int .i8 k0, .int .i64 k1, .int .i64 k2, .int .i64 k3, .int .i64 k4, .int .i64 k5, .int .i64 k6, .int .i64 k7, .int .i64 k8, .int .i64 k9, .int .i64 k10, .bool k11, .slice pk0 k12.length pk1] 40)).alloc (.cells #[.int .i64 s0, .int .i64 s1, .int .i64 s2, .slice ps0 s3.length ps1, .slice ps2 s4.length ps3, .slice ps4 s5.length ps5, .slice ps6 s6.length ps7] 56))) := mid_alloc' (mid_alloc' (mid_alloc' (Below.refl _ _)))
  have HX0 : Hid (Box (((w.alloc (.cells #[.int .i8 m0, .int .i64 m1, .int .i64 m2, .int .i64 m3, .int .i64 m4, .int .i64 m5, .int .i64 m6, .bool m7, .slice pm0 m8.length pm1, .int .i64 m9, .int .i64 m10, B m11, .slice pm2 m12.length pm3, .slice pm4 m13.length pm5] 67)).alloc (.cells #[.int .i8 k0, .int .i64 k1, .int .i64 k2, .int .i64 k3, .int .i64 k4, .int .i64 k5, .int .i64 k6, .int .i64 k7, .int .i64 k8, .int .i64 k9, .int .i64 k10, .bool k11, .slice pk0 k12.length pk1] 40)).alloc (.cells #[.int .i64 s0, .int .i64 s1, .int .i64 s2, .slice ps0 s3.length ps1, .slice ps2 s4.length ps3, .slice ps4 s5.length ps5, .slice ps6 s6.length ps7] 56)) w.heap.size [.int .i8 m0, .int .i64 m1, .int .i64 m2, .int .i64 m3, .int .i64 m4, .int .i64 m5, .int .i64 m6, .bool m7, .slice pm0 m8.length pm1, .int .i64 m9, .int .i64 m10, B m11, .slice pm2 m12.length pm3, .slice pm4 m13.length pm5]) := Box.of_alloc (w := w) (cs := [.int .i8 m0, .int .i64 m1, .int .i64 m2, .int .i64 m3, .int .i64 m4, .int .i64 m5, .int .i64 m6, .bool m7, .slice pm0 m8.length pm1, .int .i64 m9, .int .i64 m10, B m11, .slice pm2 m12.length pm3, .slice pm4 m13.length pm5]) (t := 67) (mid_alloc' (mid_alloc' (Below.refl _ _)))
  have HY0 : Hid (Box (((w.alloc (.cells #[.int .i8 m0, .int .i64 m1, .int .i64 m2, .int .i64 m3, .int .i64 m4, .int .i64 m5, .int .i64 m6, .bool m7, .slice pm0 m8.length pm1, .int .i64 m9, .int .i64 m10, B m11, .slice pm2 m12.length pm3, .slice pm4 m13.length pm5] 67)).alloc (.cells #[.int .i8 k0, .int .i64 k1, .int .i64 k2, .int .i64 k3, .int .i64 k4, .int .i64 k5, .int .i64 k6, .int .i64 k7, .int .i64 k8, .int .i64 k9, .int .i64 k10, .bool k11, .slice pk0 k12.length pk1] 40)).alloc (.cells #[.int .i64 s0, .int .i64 s1, .int .i64 s2, .slice ps0 s3.length ps1, .slice ps2 s4.length ps3, .slice ps4 s5.length ps5, .slice ps6 s6.length ps7] 56)) (w.heap.size + 1) [.int .i8 k0, .int .i64 k1, .int .i64 k2, .int .i64 k3, .int .i64 k4, .int .i64 k5, .int .i64 k6, .int .i64 k7, .int .i64 k8, .int .i64 k9, .int .i64 k10, .bool k11, .slice pk0 k12.length pk1]) := Box.of_alloc1 (w := w) (cs := [.int .i8 k0, .int .i64 k1, .int .i64 k2, .int .i64 k3, .int .i64 k4, .int .i64 k5, .int .i64 k6, .int .i64 k7, .int .i64 k8, .int .i64 k9, .int .i64 k10, .bool k11, .slice pk0 k12.length pk1]) (t := 40) (mid_alloc' (Below.refl _ _))
  have HZ0 : Hid (Box (((w.alloc (.cells #[.int .i8 m0, .int .i64 m1, .int .i64 m2, .int .i64 m3, .int .i64 m4, .int .i64 m5, .int .i64 m6, .bool m7, .slice pm0 m8.length pm1, .int .i64 m9, .int .i64 m10, B m11, .slice pm2 m12.length pm3, .slice pm4 m13.length pm5] 67)).alloc (.cells #[.int .i8 k0, .int .i64 k1, .int .i64 k2, .int .i64 k3, .int .i64 k4, .int .i64 k5, .int .i64 k6, .int .i64 k7, .int .i64 k8, .int .i64 k9, .int .i64 k10, .bool k11, .slice pk0 k12.length pk1] 40)).alloc (.cells #[.int .i64 s0, .int .i64 s1, .int .i64 s2, .slice ps0 s3.length ps1, .slice ps2 s4.length ps3, .slice ps4 s5.length ps5, .slice ps6 s6.length ps7] 56)) (w.heap.size + 1 + 1) [.int .i64 s0, .int .i64 s1, .int .i64 s2, .slice ps0 s3.length ps1, .slice ps2 s4.length ps3, .slice ps4 s5.length ps5, .slice ps6 s6.length ps7]) := Box.of_alloc2 (w := w) (cs := [.int .i64 s0, .int .i64 s1, .int .i64 s2, .slice ps0 s3.length ps1, .slice ps2 s4.length ps3, .slice ps4 s5.length ps5, .slice ps6 s6.length ps7]) (t := 56) (Below.refl _ _)
  unfold valMsg at HGR HEM
  unfold valSt at HGS HES
  unfold valCmd at HEC
  unfold valMsg valCmd valSt
  simp only at HGR HGS HEM HEC HES ⊢
  have d1 : decide ((500 : Int) < (k12.length : Int)) = false := decide_eq_false (by omega)
  have d2 : decide ((8000 : Int) < (l.length : Int)) = false := decide_eq_false (by omega)
  have d3 : decide ((1000 : Int) < (l2.length : Int)) = false := decide_eq_false (by omega)
  have HLN : Hid (l.length ≤ 8000 ∧ l2.length ≤ 1000) := ⟨by omega, by omega⟩
  clear hgK hgN hgM
  go_enter Try.func8, Try.ntmps8
  go_upto_region 3 with (first
    | (go_at_call 9; ((with_reducible refine (wakes_any _).mono ?_); rintro e ww ⟨rfl, hb⟩; have HBW := Lib.hid hb; clear hb))
    | (go_at_call 28; ((with_reducible refine (HGS.out _).mono ?_); rintro e w2 ⟨rfl, hb⟩; clear gy12 gz0 gz1 gz2 gz3 gz4 gz5 gz6; have HX2 := Lib.hid (HX1.out.next (by simp) hb); have HY2 := Lib.hid (HY1.out.next (by simp) hb); have HZ2 := Lib.hid (HZ1.out.next (by simp) hb); have HB2 := Lib.hid (HB1.out.trans (hb.mono HB1.out.size)); clear hb; have gx0 := HX2.out.cell (j := 0) rfl; have gx1 := HX2.out.cell (j := 1) rfl; have gx2 := HX2.out.cell (j := 2) rfl; have gx3 := HX2.out.cell (j := 3) rfl; have gx4 := HX2.out.cell (j := 4) rfl; have gx5 := HX2.out.cell (j := 5) rfl; have gx6 := HX2.out.cell (j := 6) rfl; have gx7 := HX2.out.cell (j := 7) rfl; have gx8 := HX2.out.cell (j := 8) rfl; have gx9 := HX2.out.cell (j := 9) rfl; have gx10 := HX2.out.cell (j := 10) rfl; have gx11 := HX2.out.cell (j := 11) rfl; have gx12 := HX2.out.cell (j := 12) rfl; have gx13 := HX2.out.cell (j := 13) rfl))
    | (go_at_call 34; ((with_reducible refine (HGR.out _ HB0.out).mono ?_); rintro e w1 ⟨b, rfl, hb, hf⟩; have HX1 := Lib.hid (HX0.out.next (by simp) hb); have HY1 := Lib.hid (HY0.out.next (by simp) hb); have HZ1 := Lib.hid (HZ0.out.next (by simp) hb); have HB1 := Lib.hid (HB0.out.trans (hb.mono HB0.out.size)); have HFW := Lib.hid hf; clear hb hf; have gy12 := HY1.out.cell (j := 12) rfl; have gz0 := HZ1.out.cell (j := 0) rfl; have gz1 := HZ1.out.cell (j := 1) rfl; have gz2 := HZ1.out.cell (j := 2) rfl; have gz3 := HZ1.out.cell (j := 3) rfl; have gz4 := HZ1.out.cell (j := 4) rfl; have gz5 := HZ1.out.cell (j := 5) rfl; have gz6 := HZ1.out.cell (j := 6) rfl; cases b)))
  rotate_left
  · as_aux_lemma => go_returns; exact ⟨rfl, HB1.out.trans (HBW.out.mono HB1.out.size)⟩
  have hok := HOKM.out (HFW.out (by first | trivial | rfl))
  have HML := Lib.hid (HFW.out (by first | trivial | rfl)).ents_le
  replace HEM := Lib.hid (HEM.out hok)
  replace HRM := Lib.hid (HRM.out hok)
  clear hok HOKM HFW HGR HGS d1 d2 d3 HX0 HY0 HZ0 HB0 HX1 HY1 HZ1 HB1
  go_upto_region 8 with (first
    | (have hgq := HB10; clear hgq; go_at_call 33; have hse := same_state ⟨s0, s1, s2, s3, s4, s5, s6⟩ (z0, z1, z2, z3, z4, z5, z6, z7) (ps0, ps1, ps2, ps3, ps4, ps5, ps6, ps7) w10 HRS2.out.low (HSP.out _ HB10.out) HSL.out; unfold valSt at hse; ((with_reducible refine hse.mono ?_); clear hse; rintro e w11 ⟨rfl, hb⟩; clear go0 go1 go2 go3 go4 go5 go6; clear gz0 gz1 gz2 gz3 gz4 gz5 gz6; have HB11 := Lib.hid (HB10.out.trans (hb.mono HB10.out.size)); clear hb; skip))
    | (have hgq := HB9; clear hgq; go_at_call 23; have hse := same_command ⟨k0, k1, k2, k3, k4, k5, k6, k7, k8, k9, k10, k11, k12⟩ (r0, r1) (pk0, pk1) w9 HRC2.out (HKP.out _ HB9.out) HKL.out; unfold valCmd at hse; ((with_reducible refine hse.mono ?_); clear hse; rintro e w10 ⟨rfl, hb⟩; clear gn0 gn1 gn2 gn3 gn4 gn5 gn6 gn7 gn8 gn9 gn10 gn11 gn12; clear gy0 gy1 gy2 gy3 gy4 gy5 gy6 gy7 gy8 gy9 gy10 gy11 gy12; have HZ10 := Lib.hid (HZ9.out.next (by simp) hb); have HO10 := Lib.hid (HO9.out.next (by simp) hb); have HB10 := Lib.hid (HB9.out.trans (hb.mono HB9.out.size)); replace HRC2 := Lib.hid (HRC2.out.below hb); replace HRS2 := Lib.hid (HRS2.out.below hb); clear hb; have go0 := HO10.out.cell (j := 0) rfl; have go1 := HO10.out.cell (j := 1) rfl; have go2 := HO10.out.cell (j := 2) rfl; have go3 := HO10.out.cell (j := 3) rfl; have go4 := HO10.out.cell (j := 4) rfl; have go5 := HO10.out.cell (j := 5) rfl; have go6 := HO10.out.cell (j := 6) rfl; have gz0 := HZ10.out.cell (j := 0) rfl; have gz1 := HZ10.out.cell (j := 1) rfl; have gz2 := HZ10.out.cell (j := 2) rfl; have gz3 := HZ10.out.cell (j := 3) rfl; have gz4 := HZ10.out.cell (j := 4) rfl; have gz5 := HZ10.out.cell (j := 5) rfl; have gz6 := HZ10.out.cell (j := 6) rfl))
    | (have hgq := HB8; clear hgq; go_at_call 39; have hse := same_message ⟨m0, m1, m2, m3, m4, m5, m6, m7, m8, m9, m10, m11, m12, m13⟩ (q0, q1, q2, q3, q4, q5) (pm0, pm1, pm2, pm3, pm4, pm5) _ HRM2.out (HMP.out _ HB8.out) HML.out; unfold valMsg at hse; ((with_reducible refine hse.mono ?_); clear hse; rintro e w9 ⟨rfl, hb⟩; clear gm0 gm1 gm2 gm3 gm4 gm5 gm6 gm7 gm8 gm9 gm10 gm11 gm12 gm13; clear gx0 gx1 gx2 gx3 gx4 gx5 gx6 gx7 gx8 gx9 gx10 gx11 gx12 gx13; have HY9 := Lib.hid (HY8.out.next (by simp) hb); have HZ9 := Lib.hid (HZ8.out.next (by simp) hb); have HN9 := Lib.hid (HN8.out.next (by simp) hb); have HO9 := Lib.hid (HO8.out.next (by simp) hb); have HB9 := Lib.hid (HB8.out.trans (hb.mono HB8.out.size)); replace HRC2 := Lib.hid (HRC2.out.below hb); replace HRS2 := Lib.hid (HRS2.out.below hb); clear hb; have gn0 := HN9.out.cell (j := 0) rfl; have gn1 := HN9.out.cell (j := 1) rfl; have gn2 := HN9.out.cell (j := 2) rfl; have gn3 := HN9.out.cell (j := 3) rfl; have gn4 := HN9.out.cell (j := 4) rfl; have gn5 := HN9.out.cell (j := 5) rfl; have gn6 := HN9.out.cell (j := 6) rfl; have gn7 := HN9.out.cell (j := 7) rfl; have gn8 := HN9.out.cell (j := 8) rfl; have gn9 := HN9.out.cell (j := 9) rfl; have gn10 := HN9.out.cell (j := 10) rfl; have gn11 := HN9.out.cell (j := 11) rfl; have gn12 := HN9.out.cell (j := 12) rfl; have gy0 := HY9.out.cell (j := 0) rfl; have gy1 := HY9.out.cell (j := 1) rfl; have gy2 := HY9.out.cell (j := 2) rfl; have gy3 := HY9.out.cell (j := 3) rfl; have gy4 := HY9.out.cell (j := 4) rfl; have gy5 := HY9.out.cell (j := 5) rfl; have gy6 := HY9.out.cell (j := 6) rfl; have gy7 := HY9.out.cell (j := 7) rfl; have gy8 := HY9.out.cell (j := 8) rfl; have gy9 := HY9.out.cell (j := 9) rfl; have gy10 := HY9.out.cell (j := 10) rfl; have gy11 := HY9.out.cell (j := 11) rfl; have gy12 := HY9.out.cell (j := 12) rfl))
    | (have hgq := HRW7; clear hgq; go_at_call 29; ((with_reducible refine (HRS.out _ _ _ HRW7.out HLE7.out).mono ?_); rintro e w8 ⟨⟨z0, z1, z2, z3, z4, z5, z6, z7⟩, rfl, hmm, hb⟩; have hba : Below w8.heap.size w8 (w8.alloc (.cells #[.int .i64 s0, .int .i64 s1, .int .i64 s2, .slice z0 s3.length z1, .slice z2 s4.length z3, .slice z4 s5.length z5, .slice z6 s6.length z7] 56)) := mid_alloc' (Below.refl _ _); have HX8 := Lib.hid ((HX7.out.next (by simp) hb).next (by simp) hba); have HY8 := Lib.hid ((HY7.out.next (by simp) hb).next (by simp) hba); have HZ8 := Lib.hid ((HZ7.out.next (by simp) hb).next (by simp) hba); have HM8 := Lib.hid ((HM7.out.next (by simp) hb).next (by simp) hba); have HN8 := Lib.hid ((HN7.out.next (by simp) hb).next (by simp) hba); have HO8 := Lib.hid (Box.of_alloc (w := w8) (cs := [.int .i64 s0, .int .i64 s1, .int .i64 s2, .slice z0 s3.length z1, .slice z2 s4.length z3, .slice z4 s5.length z5, .slice z6 s6.length z7]) (t := 56) (Below.refl _ _)); have hbk := HB7.out.trans (hb.mono HB7.out.size); have HB8 := Lib.hid (hbk.trans (hba.mono hbk.size)); replace HRM2 := Lib.hid ((HRM2.out.below hb).below hba); replace HRC2 := Lib.hid ((HRC2.out.below hb).below hba); have HRS2 := Lib.hid (hmm.below hba); clear hmm hb hba hbk; unfold valSt; have gm0 := HM8.out.cell (j := 0) rfl; have gm1 := HM8.out.cell (j := 1) rfl; have gm2 := HM8.out.cell (j := 2) rfl; have gm3 := HM8.out.cell (j := 3) rfl; have gm4 := HM8.out.cell (j := 4) rfl; have gm5 := HM8.out.cell (j := 5) rfl; have gm6 := HM8.out.cell (j := 6) rfl; have gm7 := HM8.out.cell (j := 7) rfl; have gm8 := HM8.out.cell (j := 8) rfl; have gm9 := HM8.out.cell (j := 9) rfl; have gm10 := HM8.out.cell (j := 10) rfl; have gm11 := HM8.out.cell (j := 11) rfl; have gm12 := HM8.out.cell (j := 12) rfl; have gm13 := HM8.out.cell (j := 13) rfl; have gx0 := HX8.out.cell (j := 0) rfl; have gx1 := HX8.out.cell (j := 1) rfl; have gx2 := HX8.out.cell (j := 2) rfl; have gx3 := HX8.out.cell (j := 3) rfl; have gx4 := HX8.out.cell (j := 4) rfl; have gx5 := HX8.out.cell (j := 5) rfl; have gx6 := HX8.out.cell (j := 6) rfl; have gx7 := HX8.out.cell (j := 7) rfl; have gx8 := HX8.out.cell (j := 8) rfl; have gx9 := HX8.out.cell (j := 9) rfl; have gx10 := HX8.out.cell (j := 10) rfl; have gx11 := HX8.out.cell (j := 11) rfl; have gx12 := HX8.out.cell (j := 12) rfl; have gx13 := HX8.out.cell (j := 13) rfl))
    | (have hgq := HB6; clear hgq; go_at_call 31; ((with_reducible refine (HES.out _ HB6.out).mono ?_); rintro e w7 ⟨b7, d7, rfl, hrw, hb, hle⟩; replace HRM2 := Lib.hid (HRM2.out.below hb); replace HRC2 := Lib.hid (HRC2.out.below hb); clear gz0 gz1 gz2 gz3 gz4 gz5 gz6; have HX7 := Lib.hid (HX6.out.next (by simp) hb); have HY7 := Lib.hid (HY6.out.next (by simp) hb); have HZ7 := Lib.hid (HZ6.out.next (by simp) hb); have HM7 := Lib.hid (HM6.out.next (by simp) hb); have HN7 := Lib.hid (HN6.out.next (by simp) hb); have HB7 := Lib.hid (HB6.out.trans (hb.mono HB6.out.size)); have HRW7 := Lib.hid hrw; have HLE7 := Lib.hid hle; clear hb hrw hle))
    | (have hgq := HRW5; clear hgq; go_at_call 19; ((with_reducible refine (HRC.out _ _ _ HRW5.out HLE5.out).mono ?_); rintro e w6 ⟨⟨r0, r1⟩, rfl, hmm, hb⟩; have hba : Below w6.heap.size w6 (w6.alloc (.cells #[.int .i8 k0, .int .i64 k1, .int .i64 k2, .int .i64 k3, .int .i64 k4, .int .i64 k5, .int .i64 k6, .int .i64 k7, .int .i64 k8, .int .i64 k9, .int .i64 k10, .bool k11, .slice r0 k12.length r1] 40)) := mid_alloc' (Below.refl _ _); have HX6 := Lib.hid ((HX5.out.next (by simp) hb).next (by simp) hba); have HY6 := Lib.hid ((HY5.out.next (by simp) hb).next (by simp) hba); have HZ6 := Lib.hid ((HZ5.out.next (by simp) hb).next (by simp) hba); have HM6 := Lib.hid ((HM5.out.next (by simp) hb).next (by simp) hba); have HN6 := Lib.hid (Box.of_alloc (w := w6) (cs := [.int .i8 k0, .int .i64 k1, .int .i64 k2, .int .i64 k3, .int .i64 k4, .int .i64 k5, .int .i64 k6, .int .i64 k7, .int .i64 k8, .int .i64 k9, .int .i64 k10, .bool k11, .slice r0 k12.length r1]) (t := 40) (Below.refl _ _)); have hbk := HB5.out.trans (hb.mono HB5.out.size); have HB6 := Lib.hid (hbk.trans (hba.mono hbk.size)); replace HRM2 := Lib.hid ((HRM2.out.below hb).below hba); have HRC2 := Lib.hid (hmm.row.row.below hba); clear hmm hb hba hbk; unfold valCmd; have gz0 := HZ6.out.cell (j := 0) rfl; have gz1 := HZ6.out.cell (j := 1) rfl; have gz2 := HZ6.out.cell (j := 2) rfl; have gz3 := HZ6.out.cell (j := 3) rfl; have gz4 := HZ6.out.cell (j := 4) rfl; have gz5 := HZ6.out.cell (j := 5) rfl; have gz6 := HZ6.out.cell (j := 6) rfl))
    | (have hgq := HB4; clear hgq; go_at_call 24; ((with_reducible refine (HEC.out _ HB4.out).mono ?_); rintro e w5 ⟨b5, d5, rfl, hrw, hb, hle⟩; replace HRM2 := Lib.hid (HRM2.out.below hb); clear gy0 gy1 gy2 gy3 gy4 gy5 gy6 gy7 gy8 gy9 gy10 gy11 gy12; have HX5 := Lib.hid (HX4.out.next (by simp) hb); have HY5 := Lib.hid (HY4.out.next (by simp) hb); have HZ5 := Lib.hid (HZ4.out.next (by simp) hb); have HM5 := Lib.hid (HM4.out.next (by simp) hb); have HB5 := Lib.hid (HB4.out.trans (hb.mono HB4.out.size)); have HRW5 := Lib.hid hrw; have HLE5 := Lib.hid hle; clear hb hrw hle))
    | (have hgq := HRW3; clear hgq; go_at_call 35; ((with_reducible refine (HRM.out _ _ _ HRW3.out HLE3.out).mono ?_); rintro e w4 ⟨⟨q0, q1, q2, q3, q4, q5⟩, rfl, hmm, hb⟩; have hba : Below w4.heap.size w4 (w4.alloc (.cells #[.int .i8 m0, .int .i64 m1, .int .i64 m2, .int .i64 m3, .int .i64 m4, .int .i64 m5, .int .i64 m6, .bool m7, .slice q0 m8.length q1, .int .i64 m9, .int .i64 m10, B m11, .slice q2 m12.length q3, .slice q4 m13.length q5] 67)) := mid_alloc' (Below.refl _ _); have HX4 := Lib.hid ((HX3.out.next (by simp) hb).next (by simp) hba); have HY4 := Lib.hid ((HY3.out.next (by simp) hb).next (by simp) hba); have HZ4 := Lib.hid ((HZ3.out.next (by simp) hb).next (by simp) hba); have HM4 := Lib.hid (Box.of_alloc (w := w4) (cs := [.int .i8 m0, .int .i64 m1, .int .i64 m2, .int .i64 m3, .int .i64 m4, .int .i64 m5, .int .i64 m6, .bool m7, .slice q0 m8.length q1, .int .i64 m9, .int .i64 m10, B m11, .slice q2 m12.length q3, .slice q4 m13.length q5]) (t := 67) (Below.refl _ _)); have hbk := HB3.out.trans (hb.mono HB3.out.size); have HB4 := Lib.hid (hbk.trans (hba.mono hbk.size)); have HRM2 := Lib.hid (hmm.rows.below hba); clear hmm hb hba hbk; unfold valMsg; have gy0 := HY4.out.cell (j := 0) rfl; have gy1 := HY4.out.cell (j := 1) rfl; have gy2 := HY4.out.cell (j := 2) rfl; have gy3 := HY4.out.cell (j := 3) rfl; have gy4 := HY4.out.cell (j := 4) rfl; have gy5 := HY4.out.cell (j := 5) rfl; have gy6 := HY4.out.cell (j := 6) rfl; have gy7 := HY4.out.cell (j := 7) rfl; have gy8 := HY4.out.cell (j := 8) rfl; have gy9 := HY4.out.cell (j := 9) rfl; have gy10 := HY4.out.cell (j := 10) rfl; have gy11 := HY4.out.cell (j := 11) rfl; have gy12 := HY4.out.cell (j := 12) rfl))
    | (have hgq := HB2; clear hgq; go_at_call 37; ((with_reducible refine (HEM.out _ HB2.out).mono ?_); rintro e w3 ⟨b3, d3, rfl, hrw, hb, hle⟩; clear gx0 gx1 gx2 gx3 gx4 gx5 gx6 gx7 gx8 gx9 gx10 gx11 gx12 gx13; have HX3 := Lib.hid (HX2.out.next (by simp) hb); have HY3 := Lib.hid (HY2.out.next (by simp) hb); have HZ3 := Lib.hid (HZ2.out.next (by simp) hb); have HB3 := Lib.hid (HB2.out.trans (hb.mono HB2.out.size)); have HRW3 := Lib.hid hrw; have HLE3 := Lib.hid hle; clear hb hrw hle)))
  clear HX2 HY2 HZ2 HB2 HX3 HY3 HZ3 HB3 HX4 HY4 HZ4 HM4 HB4 HX5 HY5 HZ5 HM5 HB5 HX6 HY6 HZ6 HM6 HN6 HB6 HX7 HY7 HZ7 HM7 HN7 HB7 HX8 HY8 HZ8 HM8 HN8 HO8 HB8 HB9 HB10 HY9 HZ9 HN9 HO9 HZ10 HO10 HRW3 HLE3 HRW5 HLE5 HRW7 HLE7 HRM2 HRC2 HRS2 HEM HEC HES HRM HRC HRS HMP HKP HSP HSL HKL HML
  have HBB := HB11
  clear HB11
  obtain ⟨rr, hrr⟩ : ∃ rr, readP zMsg wMsgP l = rr := ⟨_, rfl⟩
  rw [hrr] at HRDM
  obtain ⟨⟨y0, y1, y2, y3, y4, y5, y6, y7, y8, y9, y10, y11, y12, y13⟩, i, j⟩ := rr
  have HJ : Hid (j = 0 → _) := Lib.hid (fun h => HKM.out ⟨y0, y1, y2, y3, y4, y5, y6, y7, y8, y9, y10, y11, y12, y13⟩ i (by rw [hrr, h]))
  clear hrr HKM
  go_cut [20, 22] from 11 (fun v1 v2 wx => ∃ (g : Nat) (q : PMsg), v1 = .pointer (some ⟨g, 0, none⟩) ∧ v2 = .int .i64 j ∧ Hid (Box wx g (cellsMsg ⟨y0, y1, y2, y3, y4, y5, y6, y7, y8, y9, y10, y11, y12, y13⟩ q)) ∧ Hid (LowMsg wx.heap.size wx ⟨y0, y1, y2, y3, y4, y5, y6, y7, y8, y9, y10, y11, y12, y13⟩ q) ∧ Hid (Below w.heap.size w wx))
  case first => as_aux_lemma =>
    go_wp2_with (go_at_call 35; ((with_reducible refine (HRDM.out _ HBB.out).mono ?_); rintro e w12 ⟨⟨q0, q1, q2, q3, q4, q5⟩, rfl, hmm, hb⟩; have hba : Below w12.heap.size w12 (w12.alloc (.cells #[.int .i8 y0, .int .i64 y1, .int .i64 y2, .int .i64 y3, .int .i64 y4, .int .i64 y5, .int .i64 y6, .bool y7, .slice q0 y8.length q1, .int .i64 y9, .int .i64 y10, B y11, .slice q2 y12.length q3, .slice q4 y13.length q5] 67)) := mid_alloc' (Below.refl _ _); have HN := Lib.hid (Box.of_alloc (w := w12) (cs := [.int .i8 y0, .int .i64 y1, .int .i64 y2, .int .i64 y3, .int .i64 y4, .int .i64 y5, .int .i64 y6, .bool y7, .slice q0 y8.length q1, .int .i64 y9, .int .i64 y10, B y11, .slice q2 y12.length q3, .slice q4 y13.length q5]) (t := 67) (Below.refl _ _)); have hbk := HBB.out.trans (hb.mono HBB.out.size); have HB2 := Lib.hid (hbk.trans (hba.mono hbk.size)); have HLO := Lib.hid (hmm.below hba); clear hmm hb hba hbk; unfold valMsg))
    go_meet
    exact ⟨_, (q0, q1, q2, q3, q4, q5), rfl, rfl, HN.out, HLO.out.low, HB2.out⟩
  obtain ⟨g, ⟨q0, q1, q2, q3, q4, q5⟩, rfl, rfl, HG, HLO, HB1⟩ := hcut
  clear HBB HRDM
  replace HG : Hid (Box wc g [.int .i8 y0, .int .i64 y1, .int .i64 y2, .int .i64 y3, .int .i64 y4, .int .i64 y5, .int .i64 y6, .bool y7, .slice q0 y8.length q1, .int .i64 y9, .int .i64 y10, B y11, .slice q2 y12.length q3, .slice q4 y13.length q5]) := HG
  generalize wc = wd at HG HLO HB1 ⊢
  go_upto_region 9 with fail
  go_cut [118] from 11 (fun v1 wx => v1 = .bool false ∧ Hid (Below w.heap.size w wx))
  case first =>
    have HB2 := Lib.hid (HB1.out.drew)
    by_cases hj : j = 0
    · subst hj
      obtain ⟨he, hok⟩ := HJ.out rfl
      have HEN := Lib.hid (message_bytes ⟨y0, y1, y2, y3, y4, y5, y6, y7, y8, y9, y10, y11, y12, y13⟩ (q0, q1, q2, q3, q4, q5) wd.drew (HLO.out.up (Nat.le_refl _) ((Below.refl _ _).drew : Below wd.heap.size wd wd.drew)) hok)
      rw [he] at HEN
      have HG2 := Lib.hid HG.out.drew
      have HCVB : Hid (∀ w', Below w.heap.size w w' → (convert 22 9 (.slice a l.length c)).run Try.prog w' = .ok (.string ⟨l.toArray⟩) w') := fun w' h => conv_bytes (HROW.out w' h) rfl
      unfold valMsg at HEN
      simp only at HEN
      clear he hok HJ HLO
      refine wp_region_held_drew (S := (fun w' => w'.cell? ⟨g, 0, none⟩ = some (.int .i8 y0) ∧ w'.cell? ⟨g, 1, none⟩ = some (.int .i64 y1) ∧ w'.cell? ⟨g, 2, none⟩ = some (.int .i64 y2) ∧ w'.cell? ⟨g, 3, none⟩ = some (.int .i64 y3) ∧ w'.cell? ⟨g, 4, none⟩ = some (.int .i64 y4) ∧ w'.cell? ⟨g, 5, none⟩ = some (.int .i64 y5) ∧ w'.cell? ⟨g, 6, none⟩ = some (.int .i64 y6) ∧ w'.cell? ⟨g, 7, none⟩ = some (.bool y7) ∧ w'.cell? ⟨g, 8, none⟩ = some (.slice q0 y8.length q1) ∧ w'.cell? ⟨g, 9, none⟩ = some (.int .i64 y9) ∧ w'.cell? ⟨g, 10, none⟩ = some (.int .i64 y10) ∧ w'.cell? ⟨g, 11, none⟩ = some (B y11) ∧ w'.cell? ⟨g, 12, none⟩ = some (.slice q2 y12.length q3) ∧ w'.cell? ⟨g, 13, none⟩ = some (.slice q4 y13.length q5) ∧ (convert 22 9 (.slice a l.length c)).run Try.prog w' = .ok (.string ⟨l.toArray⟩) w')) (by kernel_rfl) ⟨HG2.out.cell (j := 0) rfl, HG2.out.cell (j := 1) rfl, HG2.out.cell (j := 2) rfl, HG2.out.cell (j := 3) rfl, HG2.out.cell (j := 4) rfl, HG2.out.cell (j := 5) rfl, HG2.out.cell (j := 6) rfl, HG2.out.cell (j := 7) rfl, HG2.out.cell (j := 8) rfl, HG2.out.cell (j := 9) rfl, HG2.out.cell (j := 10) rfl, HG2.out.cell (j := 11) rfl, HG2.out.cell (j := 12) rfl, HG2.out.cell (j := 13) rfl, HCVB.out _ HB2.out⟩ (fun hHeld => ?_)
      refine wpAnyH_take (i := 0) (oi := _) (v := ?v0_1) rfl (by kernel_rfl) (by kernel_rfl) (by kernel_rfl) (fun _ _ _ h => h) (Or.inl ⟨by rfl, ?hy0_1⟩) (by assumption) ?rest0_1
      case hy0_1 =>
        intro w hSw
        (try dsimp only at hSw)
        go_simp
        rfl
      case' rest0_1 => try simp only [Act.put, List.setIfInBounds_toArray, List.set_cons_zero, List.set_cons_succ, List.getElem_toArray, List.getElem_cons_zero, List.getElem_cons_succ]
      refine wpAnyH_take (i := 1) (oi := _) (v := ?v1_2) rfl (by kernel_rfl) (by kernel_rfl) (by kernel_rfl) (fun _ _ _ h => h) (Or.inl ⟨by rfl, ?hy1_2⟩) (by assumption) ?rest1_2
      case hy1_2 =>
        intro w hSw
        (try dsimp only at hSw)
        go_simp
        rfl
      case' rest1_2 => try simp only [Act.put, List.setIfInBounds_toArray, List.set_cons_zero, List.set_cons_succ, List.getElem_toArray, List.getElem_cons_zero, List.getElem_cons_succ]
      refine wpAnyH_take (i := 2) (oi := _) (v := ?v2_3) rfl (by kernel_rfl) (by kernel_rfl) (by kernel_rfl) (fun _ _ _ h => h) (Or.inl ⟨by rfl, ?hy2_3⟩) (by assumption) ?rest2_3
      case hy2_3 =>
        intro w hSw
        (try dsimp only at hSw)
        go_simp
        rfl
      case' rest2_3 => try simp only [Act.put, List.setIfInBounds_toArray, List.set_cons_zero, List.set_cons_succ, List.getElem_toArray, List.getElem_cons_zero, List.getElem_cons_succ]
      refine wpAnyH_take (i := 3) (oi := _) (v := ?v3_4) rfl (by kernel_rfl) (by kernel_rfl) (by kernel_rfl) (fun _ _ _ h => h) (Or.inl ⟨by rfl, ?hy3_4⟩) (by assumption) ?rest3_4
      case hy3_4 =>
        intro w hSw
        (try dsimp only at hSw)
        go_simp
        rfl
      case' rest3_4 => try simp only [Act.put, List.setIfInBounds_toArray, List.set_cons_zero, List.set_cons_succ, List.getElem_toArray, List.getElem_cons_zero, List.getElem_cons_succ]
      refine wpAnyH_take (i := 6) (oi := _) (v := ?v6_5) rfl (by kernel_rfl) (by kernel_rfl) (by kernel_rfl) (fun _ _ _ h => h) (Or.inl ⟨by rfl, ?hy6_5⟩) (by assumption) ?rest6_5
      case hy6_5 =>
        intro w hSw
        (try dsimp only at hSw)
        go_simp
        rfl
      case' rest6_5 => try simp only [Act.put, List.setIfInBounds_toArray, List.set_cons_zero, List.set_cons_succ, List.getElem_toArray, List.getElem_cons_zero, List.getElem_cons_succ]
      refine wpAnyH_take (i := 7) (oi := _) (v := ?v7_6) rfl (by kernel_rfl) (by kernel_rfl) (by kernel_rfl) (fun _ _ _ h => h) (Or.inl ⟨by rfl, ?hy7_6⟩) (by assumption) ?rest7_6
      case hy7_6 =>
        intro w hSw
        (try dsimp only at hSw)
        go_simp
        rfl
      case' rest7_6 => try simp only [Act.put, List.setIfInBounds_toArray, List.set_cons_zero, List.set_cons_succ, List.getElem_toArray, List.getElem_cons_zero, List.getElem_cons_succ]
      refine wpAnyH_ready (rs := [4]) (by kernel_rfl) (by simp) ?_
      refine AllReadyH.cons (o := _) rfl (fun K hK => ?_) AllReadyH.nil
      go_simp
      go_at_call 37
      with_reducible refine HEN.out.mono ?_
      rintro e w5 ⟨b5, d5, rfl, hrw5, hb5, -⟩
      have HG3 := Lib.hid (HG2.out.next (by simp) hb5)
      have HB3 := Lib.hid (HB2.out.trans (hb5.mono HB2.out.size))
      have HRW5 := Lib.hid hrw5
      have HCV5 : Hid (∀ w', RowB w' b5 l → (convert 22 9 (.slice b5 l.length d5)).run Try.prog w' = .ok (.string ⟨l.toArray⟩) w') := fun w' h => conv_bytes h rfl
      clear hrw5 hb5
      clear hHeld
      refine hK.out _ _ ⟨HG3.out.cell (j := 0) rfl, HG3.out.cell (j := 1) rfl, HG3.out.cell (j := 2) rfl, HG3.out.cell (j := 3) rfl, HG3.out.cell (j := 4) rfl, HG3.out.cell (j := 5) rfl, HG3.out.cell (j := 6) rfl, HG3.out.cell (j := 7) rfl, HG3.out.cell (j := 8) rfl, HG3.out.cell (j := 9) rfl, HG3.out.cell (j := 10) rfl, HG3.out.cell (j := 11) rfl, HG3.out.cell (j := 12) rfl, HG3.out.cell (j := 13) rfl, HCVB.out _ HB3.out⟩ (fun hHeld => ?_)
      clear hK K
      try simp only [Act.put, List.setIfInBounds_toArray, List.set_cons_zero, List.set_cons_succ, List.getElem_toArray, List.getElem_cons_zero, List.getElem_cons_succ]
      refine wpAnyH_up (S' := (fun w' => w'.cell? ⟨g, 0, none⟩ = some (.int .i8 y0) ∧ w'.cell? ⟨g, 1, none⟩ = some (.int .i64 y1) ∧ w'.cell? ⟨g, 2, none⟩ = some (.int .i64 y2) ∧ w'.cell? ⟨g, 3, none⟩ = some (.int .i64 y3) ∧ w'.cell? ⟨g, 4, none⟩ = some (.int .i64 y4) ∧ w'.cell? ⟨g, 5, none⟩ = some (.int .i64 y5) ∧ w'.cell? ⟨g, 6, none⟩ = some (.int .i64 y6) ∧ w'.cell? ⟨g, 7, none⟩ = some (.bool y7) ∧ w'.cell? ⟨g, 8, none⟩ = some (.slice q0 y8.length q1) ∧ w'.cell? ⟨g, 9, none⟩ = some (.int .i64 y9) ∧ w'.cell? ⟨g, 10, none⟩ = some (.int .i64 y10) ∧ w'.cell? ⟨g, 11, none⟩ = some (B y11) ∧ w'.cell? ⟨g, 12, none⟩ = some (.slice q2 y12.length q3) ∧ w'.cell? ⟨g, 13, none⟩ = some (.slice q4 y13.length q5) ∧ (convert 22 9 (.slice a l.length c)).run Try.prog w' = .ok (.string ⟨l.toArray⟩) w' ∧ (convert 22 9 (.slice b5 l.length d5)).run Try.prog w' = .ok (.string ⟨l.toArray⟩) w')) (fun _ h => ⟨h.1, h.2.1, h.2.2.1, h.2.2.2.1, h.2.2.2.2.1, h.2.2.2.2.2.1, h.2.2.2.2.2.2.1, h.2.2.2.2.2.2.2.1, h.2.2.2.2.2.2.2.2.1, h.2.2.2.2.2.2.2.2.2.1, h.2.2.2.2.2.2.2.2.2.2.1, h.2.2.2.2.2.2.2.2.2.2.2.1, h.2.2.2.2.2.2.2.2.2.2.2.2.1, h.2.2.2.2.2.2.2.2.2.2.2.2.2.1, h.2.2.2.2.2.2.2.2.2.2.2.2.2.2.1⟩) ?_
      have hHeld2 : (fun w' => w'.cell? ⟨g, 0, none⟩ = some (.int .i8 y0) ∧ w'.cell? ⟨g, 1, none⟩ = some (.int .i64 y1) ∧ w'.cell? ⟨g, 2, none⟩ = some (.int .i64 y2) ∧ w'.cell? ⟨g, 3, none⟩ = some (.int .i64 y3) ∧ w'.cell? ⟨g, 4, none⟩ = some (.int .i64 y4) ∧ w'.cell? ⟨g, 5, none⟩ = some (.int .i64 y5) ∧ w'.cell? ⟨g, 6, none⟩ = some (.int .i64 y6) ∧ w'.cell? ⟨g, 7, none⟩ = some (.bool y7) ∧ w'.cell? ⟨g, 8, none⟩ = some (.slice q0 y8.length q1) ∧ w'.cell? ⟨g, 9, none⟩ = some (.int .i64 y9) ∧ w'.cell? ⟨g, 10, none⟩ = some (.int .i64 y10) ∧ w'.cell? ⟨g, 11, none⟩ = some (B y11) ∧ w'.cell? ⟨g, 12, none⟩ = some (.slice q2 y12.length q3) ∧ w'.cell? ⟨g, 13, none⟩ = some (.slice q4 y13.length q5) ∧ (convert 22 9 (.slice a l.length c)).run Try.prog w' = .ok (.string ⟨l.toArray⟩) w' ∧ (convert 22 9 (.slice b5 l.length d5)).run Try.prog w' = .ok (.string ⟨l.toArray⟩) w') w5 := ⟨HG3.out.cell (j := 0) rfl, HG3.out.cell (j := 1) rfl, HG3.out.cell (j := 2) rfl, HG3.out.cell (j := 3) rfl, HG3.out.cell (j := 4) rfl, HG3.out.cell (j := 5) rfl, HG3.out.cell (j := 6) rfl, HG3.out.cell (j := 7) rfl, HG3.out.cell (j := 8) rfl, HG3.out.cell (j := 9) rfl, HG3.out.cell (j := 10) rfl, HG3.out.cell (j := 11) rfl, HG3.out.cell (j := 12) rfl, HG3.out.cell (j := 13) rfl, HCVB.out _ HB3.out, HCV5.out _ HRW5.out⟩
      clear hHeld
      have hHeld := hHeld2
      clear hHeld2
      refine wpAnyH_take (i := 5) (oi := _) (v := ?v5_7) rfl (by kernel_rfl) (by kernel_rfl) (by kernel_rfl) (fun _ _ _ h => h) (Or.inl ⟨by rfl, ?hy5_7⟩) (by assumption) ?rest5_7
      case hy5_7 =>
        intro w hSw
        (try dsimp only at hSw)
        go_simp
        rfl
      case' rest5_7 => try simp only [Act.put, List.setIfInBounds_toArray, List.set_cons_zero, List.set_cons_succ, List.getElem_toArray, List.getElem_cons_zero, List.getElem_cons_succ]
      refine wpAnyH_take (i := 8) (oi := _) (v := ?v8_8) rfl (by kernel_rfl) (by kernel_rfl) (by kernel_rfl) (fun _ _ _ h => h) (Or.inl ⟨by rfl, ?hy8_8⟩) (by assumption) ?rest8_8
      case hy8_8 =>
        intro w hSw
        (try dsimp only at hSw)
        go_simp
        rfl
      case' rest8_8 => try simp only [Act.put, List.setIfInBounds_toArray, List.set_cons_zero, List.set_cons_succ, List.getElem_toArray, List.getElem_cons_zero, List.getElem_cons_succ]
      refine wpAnyH_take (i := 9) (oi := _) (v := ?v9_9) rfl (by kernel_rfl) (by kernel_rfl) (by kernel_rfl) (fun _ _ _ h => h) (Or.inl ⟨by rfl, ?hy9_9⟩) (by assumption) ?rest9_9
      case hy9_9 =>
        intro w hSw
        (try dsimp only at hSw)
        go_simp
        rfl
      case' rest9_9 => try simp only [Act.put, List.setIfInBounds_toArray, List.set_cons_zero, List.set_cons_succ, List.getElem_toArray, List.getElem_cons_zero, List.getElem_cons_succ]
      refine wpAnyH_done (by kernel_rfl) ?_ _
      clear hHeld
      go_wp2_with fail
      go_meet
      exact ⟨rfl, HB3.out⟩
    · have hd : (j == 0) = false := by simp [hj]
      clear hj
      refine wp_region_held_drew (S := (fun _ => True)) (by kernel_rfl) trivial (fun hHeld => ?_)
      refine wpAnyH_take (i := 0) (oi := _) (v := ?v0_10) rfl (by kernel_rfl) (by kernel_rfl) (by kernel_rfl) (fun _ _ _ h => h) (Or.inl ⟨by rfl, ?hy0_10⟩) (by assumption) ?rest0_10
      case hy0_10 =>
        intro w hSw
        (try dsimp only at hSw)
        go_simp
        rfl
      case' rest0_10 => try simp only [Act.put, List.setIfInBounds_toArray, List.set_cons_zero, List.set_cons_succ, List.getElem_toArray, List.getElem_cons_zero, List.getElem_cons_succ]
      refine wpAnyH_take (i := 1) (oi := _) (v := ?v1_11) rfl (by kernel_rfl) (by kernel_rfl) (by kernel_rfl) (fun _ _ _ h => h) (Or.inl ⟨by rfl, ?hy1_11⟩) (by assumption) ?rest1_11
      case hy1_11 =>
        intro w hSw
        (try dsimp only at hSw)
        go_simp
        rfl
      case' rest1_11 => try simp only [Act.put, List.setIfInBounds_toArray, List.set_cons_zero, List.set_cons_succ, List.getElem_toArray, List.getElem_cons_zero, List.getElem_cons_succ]
      refine wpAnyH_take (i := 2) (oi := _) (v := ?v2_12) rfl (by kernel_rfl) (by kernel_rfl) (by kernel_rfl) (fun _ _ _ h => h) (Or.inl ⟨by rfl, ?hy2_12⟩) (by assumption) ?rest2_12
      case hy2_12 =>
        intro w hSw
        (try dsimp only at hSw)
        go_simp
        rfl
      case' rest2_12 => try simp only [Act.put, List.setIfInBounds_toArray, List.set_cons_zero, List.set_cons_succ, List.getElem_toArray, List.getElem_cons_zero, List.getElem_cons_succ]
      refine wpAnyH_skip 3 (some 112) (by kernel_rfl) (by kernel_rfl) (by kernel_rfl) (by kernel_rfl) (fun _ _ _ h => h) (by rfl) (by assumption) ?r3_13
      try simp only [Act.put, List.setIfInBounds_toArray, List.set_cons_zero, List.set_cons_succ, List.getElem_toArray, List.getElem_cons_zero, List.getElem_cons_succ]
      refine wpAnyH_skip 4 (some 113) (by kernel_rfl) (by kernel_rfl) (by kernel_rfl) (by kernel_rfl) (fun _ _ _ h => h) (by rfl) (by assumption) ?r4_14
      try simp only [Act.put, List.setIfInBounds_toArray, List.set_cons_zero, List.set_cons_succ, List.getElem_toArray, List.getElem_cons_zero, List.getElem_cons_succ]
      refine wpAnyH_skip 5 (some 114) (by kernel_rfl) (by kernel_rfl) (by kernel_rfl) (by kernel_rfl) (fun _ _ _ h => h) (by rfl) (by assumption) ?r5_15
      try simp only [Act.put, List.setIfInBounds_toArray, List.set_cons_zero, List.set_cons_succ, List.getElem_toArray, List.getElem_cons_zero, List.getElem_cons_succ]
      refine wpAnyH_skip 6 (some 115) (by kernel_rfl) (by kernel_rfl) (by kernel_rfl) (by kernel_rfl) (fun _ _ _ h => h) (by rfl) (by assumption) ?r6_16
      try simp only [Act.put, List.setIfInBounds_toArray, List.set_cons_zero, List.set_cons_succ, List.getElem_toArray, List.getElem_cons_zero, List.getElem_cons_succ]
      refine wpAnyH_skip 7 (some 116) (by kernel_rfl) (by kernel_rfl) (by kernel_rfl) (by kernel_rfl) (fun _ _ _ h => h) (by rfl) (by assumption) ?r7_17
      try simp only [Act.put, List.setIfInBounds_toArray, List.set_cons_zero, List.set_cons_succ, List.getElem_toArray, List.getElem_cons_zero, List.getElem_cons_succ]
      refine wpAnyH_skip 8 (some 117) (by kernel_rfl) (by kernel_rfl) (by kernel_rfl) (by kernel_rfl) (fun _ _ _ h => h) (by rfl) (by assumption) ?r8_18
      try simp only [Act.put, List.setIfInBounds_toArray, List.set_cons_zero, List.set_cons_succ, List.getElem_toArray, List.getElem_cons_zero, List.getElem_cons_succ]
      refine wpAnyH_take (i := 9) (oi := _) (v := ?v9_19) rfl (by kernel_rfl) (by kernel_rfl) (by kernel_rfl) (fun _ _ _ h => h) (Or.inl ⟨by rfl, ?hy9_19⟩) (by assumption) ?rest9_19
      case hy9_19 =>
        intro w hSw
        (try dsimp only at hSw)
        go_simp
        rfl
      case' rest9_19 => try simp only [Act.put, List.setIfInBounds_toArray, List.set_cons_zero, List.set_cons_succ, List.getElem_toArray, List.getElem_cons_zero, List.getElem_cons_succ]
      refine wpAnyH_done (by kernel_rfl) ?_ _
      clear hHeld
      go_wp2_with fail
      go_meet
      exact ⟨rfl, HB2.out⟩
  obtain ⟨rfl, HBB⟩ := hcut
  clear HG HLO HB1 HJ
  generalize wc = wd2 at HBB ⊢
  go_upto_region 11 with fail
  obtain ⟨rr, hrr⟩ : ∃ rr, readP zSt wStP l = rr := ⟨_, rfl⟩
  rw [hrr] at HRDS
  obtain ⟨⟨y0, y1, y2, y3, y4, y5, y6⟩, i, j⟩ := rr
  have HJ : Hid (j = 0 → _) := Lib.hid (fun h => HKS.out ⟨y0, y1, y2, y3, y4, y5, y6⟩ i (by rw [hrr, h]))
  clear hrr HKS
  go_cut [23, 25] from 11 (fun v1 v2 wx => ∃ (g : Nat) (q : PSt), v1 = .pointer (some ⟨g, 0, none⟩) ∧ v2 = .int .i64 j ∧ Hid (Box wx g (cellsSt ⟨y0, y1, y2, y3, y4, y5, y6⟩ q)) ∧ Hid (LowSt wx.heap.size wx ⟨y0, y1, y2, y3, y4, y5, y6⟩ q) ∧ Hid (Below w.heap.size w wx))
  case first => as_aux_lemma =>
    go_wp2_with (go_at_call 29; ((with_reducible refine (HRDS.out _ HBB.out).mono ?_); rintro e w12 ⟨⟨q0, q1, q2, q3, q4, q5, q6, q7⟩, rfl, hmm, hb⟩; have hba : Below w12.heap.size w12 (w12.alloc (.cells #[.int .i64 y0, .int .i64 y1, .int .i64 y2, .slice q0 y3.length q1, .slice q2 y4.length q3, .slice q4 y5.length q5, .slice q6 y6.length q7] 56)) := mid_alloc' (Below.refl _ _); have HN := Lib.hid (Box.of_alloc (w := w12) (cs := [.int .i64 y0, .int .i64 y1, .int .i64 y2, .slice q0 y3.length q1, .slice q2 y4.length q3, .slice q4 y5.length q5, .slice q6 y6.length q7]) (t := 56) (Below.refl _ _)); have hbk := HBB.out.trans (hb.mono HBB.out.size); have HB2 := Lib.hid (hbk.trans (hba.mono hbk.size)); have HLO := Lib.hid (hmm.below hba); clear hmm hb hba hbk; unfold valSt))
    go_meet
    exact ⟨_, (q0, q1, q2, q3, q4, q5, q6, q7), rfl, rfl, HN.out, HLO.out.low, HB2.out⟩
  obtain ⟨g, ⟨q0, q1, q2, q3, q4, q5, q6, q7⟩, rfl, rfl, HG, HLO, HB1⟩ := hcut
  clear HBB HRDS
  replace HG : Hid (Box wc g [.int .i64 y0, .int .i64 y1, .int .i64 y2, .slice q0 y3.length q1, .slice q2 y4.length q3, .slice q4 y5.length q5, .slice q6 y6.length q7]) := HG
  generalize wc = wd at HG HLO HB1 ⊢
  go_upto_region 12 with fail
  go_cut [134] from 11 (fun v1 wx => v1 = .bool false ∧ Hid (Below w.heap.size w wx))
  case first =>
    have HB2 := Lib.hid (HB1.out.drew)
    by_cases hj : j = 0
    · subst hj
      obtain ⟨he, hok⟩ := HJ.out rfl
      have HEN := Lib.hid (state_bytes ⟨y0, y1, y2, y3, y4, y5, y6⟩ (q0, q1, q2, q3, q4, q5, q6, q7) wd.drew (HLO.out.up (Nat.le_refl _) ((Below.refl _ _).drew : Below wd.heap.size wd wd.drew)) hok)
      rw [he] at HEN
      have HG2 := Lib.hid HG.out.drew
      have HCVB : Hid (∀ w', Below w.heap.size w w' → (convert 22 9 (.slice a l.length c)).run Try.prog w' = .ok (.string ⟨l.toArray⟩) w') := fun w' h => conv_bytes (HROW.out w' h) rfl
      unfold valSt at HEN
      simp only at HEN
      clear he hok HJ HLO
      refine wp_region_held_drew (S := (fun w' => w'.cell? ⟨g, 0, none⟩ = some (.int .i64 y0) ∧ w'.cell? ⟨g, 1, none⟩ = some (.int .i64 y1) ∧ w'.cell? ⟨g, 2, none⟩ = some (.int .i64 y2) ∧ w'.cell? ⟨g, 3, none⟩ = some (.slice q0 y3.length q1) ∧ w'.cell? ⟨g, 4, none⟩ = some (.slice q2 y4.length q3) ∧ w'.cell? ⟨g, 5, none⟩ = some (.slice q4 y5.length q5) ∧ w'.cell? ⟨g, 6, none⟩ = some (.slice q6 y6.length q7) ∧ (convert 22 9 (.slice a l.length c)).run Try.prog w' = .ok (.string ⟨l.toArray⟩) w')) (by kernel_rfl) ⟨HG2.out.cell (j := 0) rfl, HG2.out.cell (j := 1) rfl, HG2.out.cell (j := 2) rfl, HG2.out.cell (j := 3) rfl, HG2.out.cell (j := 4) rfl, HG2.out.cell (j := 5) rfl, HG2.out.cell (j := 6) rfl, HCVB.out _ HB2.out⟩ (fun hHeld => ?_)
      refine wpAnyH_take (i := 0) (oi := _) (v := ?v0_20) rfl (by kernel_rfl) (by kernel_rfl) (by kernel_rfl) (fun _ _ _ h => h) (Or.inl ⟨by rfl, ?hy0_20⟩) (by assumption) ?rest0_20
      case hy0_20 =>
        intro w hSw
        (try dsimp only at hSw)
        go_simp
        rfl
      case' rest0_20 => try simp only [Act.put, List.setIfInBounds_toArray, List.set_cons_zero, List.set_cons_succ, List.getElem_toArray, List.getElem_cons_zero, List.getElem_cons_succ]
      refine wpAnyH_take (i := 1) (oi := _) (v := ?v1_21) rfl (by kernel_rfl) (by kernel_rfl) (by kernel_rfl) (fun _ _ _ h => h) (Or.inl ⟨by rfl, ?hy1_21⟩) (by assumption) ?rest1_21
      case hy1_21 =>
        intro w hSw
        (try dsimp only at hSw)
        go_simp
        rfl
      case' rest1_21 => try simp only [Act.put, List.setIfInBounds_toArray, List.set_cons_zero, List.set_cons_succ, List.getElem_toArray, List.getElem_cons_zero, List.getElem_cons_succ]
      refine wpAnyH_take (i := 2) (oi := _) (v := ?v2_22) rfl (by kernel_rfl) (by kernel_rfl) (by kernel_rfl) (fun _ _ _ h => h) (Or.inl ⟨by rfl, ?hy2_22⟩) (by assumption) ?rest2_22
      case hy2_22 =>
        intro w hSw
        (try dsimp only at hSw)
        go_simp
        rfl
      case' rest2_22 => try simp only [Act.put, List.setIfInBounds_toArray, List.set_cons_zero, List.set_cons_succ, List.getElem_toArray, List.getElem_cons_zero, List.getElem_cons_succ]
      refine wpAnyH_take (i := 3) (oi := _) (v := ?v3_23) rfl (by kernel_rfl) (by kernel_rfl) (by kernel_rfl) (fun _ _ _ h => h) (Or.inl ⟨by rfl, ?hy3_23⟩) (by assumption) ?rest3_23
      case hy3_23 =>
        intro w hSw
        (try dsimp only at hSw)
        go_simp
        rfl
      case' rest3_23 => try simp only [Act.put, List.setIfInBounds_toArray, List.set_cons_zero, List.set_cons_succ, List.getElem_toArray, List.getElem_cons_zero, List.getElem_cons_succ]
      refine wpAnyH_take (i := 6) (oi := _) (v := ?v6_24) rfl (by kernel_rfl) (by kernel_rfl) (by kernel_rfl) (fun _ _ _ h => h) (Or.inl ⟨by rfl, ?hy6_24⟩) (by assumption) ?rest6_24
      case hy6_24 =>
        intro w hSw
        (try dsimp only at hSw)
        go_simp
        rfl
      case' rest6_24 => try simp only [Act.put, List.setIfInBounds_toArray, List.set_cons_zero, List.set_cons_succ, List.getElem_toArray, List.getElem_cons_zero, List.getElem_cons_succ]
      refine wpAnyH_take (i := 7) (oi := _) (v := ?v7_25) rfl (by kernel_rfl) (by kernel_rfl) (by kernel_rfl) (fun _ _ _ h => h) (Or.inl ⟨by rfl, ?hy7_25⟩) (by assumption) ?rest7_25
      case hy7_25 =>
        intro w hSw
        (try dsimp only at hSw)
        go_simp
        rfl
      case' rest7_25 => try simp only [Act.put, List.setIfInBounds_toArray, List.set_cons_zero, List.set_cons_succ, List.getElem_toArray, List.getElem_cons_zero, List.getElem_cons_succ]
      refine wpAnyH_ready (rs := [4]) (by kernel_rfl) (by simp) ?_
      refine AllReadyH.cons (o := _) rfl (fun K hK => ?_) AllReadyH.nil
      go_simp
      go_at_call 31
      with_reducible refine HEN.out.mono ?_
      rintro e w5 ⟨b5, d5, rfl, hrw5, hb5, -⟩
      have HG3 := Lib.hid (HG2.out.next (by simp) hb5)
      have HB3 := Lib.hid (HB2.out.trans (hb5.mono HB2.out.size))
      have HRW5 := Lib.hid hrw5
      have HCV5 : Hid (∀ w', RowB w' b5 l → (convert 22 9 (.slice b5 l.length d5)).run Try.prog w' = .ok (.string ⟨l.toArray⟩) w') := fun w' h => conv_bytes h rfl
      clear hrw5 hb5
      clear hHeld
      refine hK.out _ _ ⟨HG3.out.cell (j := 0) rfl, HG3.out.cell (j := 1) rfl, HG3.out.cell (j := 2) rfl, HG3.out.cell (j := 3) rfl, HG3.out.cell (j := 4) rfl, HG3.out.cell (j := 5) rfl, HG3.out.cell (j := 6) rfl, HCVB.out _ HB3.out⟩ (fun hHeld => ?_)
      clear hK K
      try simp only [Act.put, List.setIfInBounds_toArray, List.set_cons_zero, List.set_cons_succ, List.getElem_toArray, List.getElem_cons_zero, List.getElem_cons_succ]
      refine wpAnyH_up (S' := (fun w' => w'.cell? ⟨g, 0, none⟩ = some (.int .i64 y0) ∧ w'.cell? ⟨g, 1, none⟩ = some (.int .i64 y1) ∧ w'.cell? ⟨g, 2, none⟩ = some (.int .i64 y2) ∧ w'.cell? ⟨g, 3, none⟩ = some (.slice q0 y3.length q1) ∧ w'.cell? ⟨g, 4, none⟩ = some (.slice q2 y4.length q3) ∧ w'.cell? ⟨g, 5, none⟩ = some (.slice q4 y5.length q5) ∧ w'.cell? ⟨g, 6, none⟩ = some (.slice q6 y6.length q7) ∧ (convert 22 9 (.slice a l.length c)).run Try.prog w' = .ok (.string ⟨l.toArray⟩) w' ∧ (convert 22 9 (.slice b5 l.length d5)).run Try.prog w' = .ok (.string ⟨l.toArray⟩) w')) (fun _ h => ⟨h.1, h.2.1, h.2.2.1, h.2.2.2.1, h.2.2.2.2.1, h.2.2.2.2.2.1, h.2.2.2.2.2.2.1, h.2.2.2.2.2.2.2.1⟩) ?_
      have hHeld2 : (fun w' => w'.cell? ⟨g, 0, none⟩ = some (.int .i64 y0) ∧ w'.cell? ⟨g, 1, none⟩ = some (.int .i64 y1) ∧ w'.cell? ⟨g, 2, none⟩ = some (.int .i64 y2) ∧ w'.cell? ⟨g, 3, none⟩ = some (.slice q0 y3.length q1) ∧ w'.cell? ⟨g, 4, none⟩ = some (.slice q2 y4.length q3) ∧ w'.cell? ⟨g, 5, none⟩ = some (.slice q4 y5.length q5) ∧ w'.cell? ⟨g, 6, none⟩ = some (.slice q6 y6.length q7) ∧ (convert 22 9 (.slice a l.length c)).run Try.prog w' = .ok (.string ⟨l.toArray⟩) w' ∧ (convert 22 9 (.slice b5 l.length d5)).run Try.prog w' = .ok (.string ⟨l.toArray⟩) w') w5 := ⟨HG3.out.cell (j := 0) rfl, HG3.out.cell (j := 1) rfl, HG3.out.cell (j := 2) rfl, HG3.out.cell (j := 3) rfl, HG3.out.cell (j := 4) rfl, HG3.out.cell (j := 5) rfl, HG3.out.cell (j := 6) rfl, HCVB.out _ HB3.out, HCV5.out _ HRW5.out⟩
      clear hHeld
      have hHeld := hHeld2
      clear hHeld2
      refine wpAnyH_take (i := 5) (oi := _) (v := ?v5_26) rfl (by kernel_rfl) (by kernel_rfl) (by kernel_rfl) (fun _ _ _ h => h) (Or.inl ⟨by rfl, ?hy5_26⟩) (by assumption) ?rest5_26
      case hy5_26 =>
        intro w hSw
        (try dsimp only at hSw)
        go_simp
        rfl
      case' rest5_26 => try simp only [Act.put, List.setIfInBounds_toArray, List.set_cons_zero, List.set_cons_succ, List.getElem_toArray, List.getElem_cons_zero, List.getElem_cons_succ]
      refine wpAnyH_take (i := 8) (oi := _) (v := ?v8_27) rfl (by kernel_rfl) (by kernel_rfl) (by kernel_rfl) (fun _ _ _ h => h) (Or.inl ⟨by rfl, ?hy8_27⟩) (by assumption) ?rest8_27
      case hy8_27 =>
        intro w hSw
        (try dsimp only at hSw)
        go_simp
        rfl
      case' rest8_27 => try simp only [Act.put, List.setIfInBounds_toArray, List.set_cons_zero, List.set_cons_succ, List.getElem_toArray, List.getElem_cons_zero, List.getElem_cons_succ]
      refine wpAnyH_take (i := 9) (oi := _) (v := ?v9_28) rfl (by kernel_rfl) (by kernel_rfl) (by kernel_rfl) (fun _ _ _ h => h) (Or.inl ⟨by rfl, ?hy9_28⟩) (by assumption) ?rest9_28
      case hy9_28 =>
        intro w hSw
        (try dsimp only at hSw)
        go_simp
        rfl
      case' rest9_28 => try simp only [Act.put, List.setIfInBounds_toArray, List.set_cons_zero, List.set_cons_succ, List.getElem_toArray, List.getElem_cons_zero, List.getElem_cons_succ]
      refine wpAnyH_done (by kernel_rfl) ?_ _
      clear hHeld
      go_wp2_with fail
      go_meet
      exact ⟨rfl, HB3.out⟩
    · have hd : (j == 0) = false := by simp [hj]
      clear hj
      refine wp_region_held_drew (S := (fun _ => True)) (by kernel_rfl) trivial (fun hHeld => ?_)
      refine wpAnyH_take (i := 0) (oi := _) (v := ?v0_29) rfl (by kernel_rfl) (by kernel_rfl) (by kernel_rfl) (fun _ _ _ h => h) (Or.inl ⟨by rfl, ?hy0_29⟩) (by assumption) ?rest0_29
      case hy0_29 =>
        intro w hSw
        (try dsimp only at hSw)
        go_simp
        rfl
      case' rest0_29 => try simp only [Act.put, List.setIfInBounds_toArray, List.set_cons_zero, List.set_cons_succ, List.getElem_toArray, List.getElem_cons_zero, List.getElem_cons_succ]
      refine wpAnyH_take (i := 1) (oi := _) (v := ?v1_30) rfl (by kernel_rfl) (by kernel_rfl) (by kernel_rfl) (fun _ _ _ h => h) (Or.inl ⟨by rfl, ?hy1_30⟩) (by assumption) ?rest1_30
      case hy1_30 =>
        intro w hSw
        (try dsimp only at hSw)
        go_simp
        rfl
      case' rest1_30 => try simp only [Act.put, List.setIfInBounds_toArray, List.set_cons_zero, List.set_cons_succ, List.getElem_toArray, List.getElem_cons_zero, List.getElem_cons_succ]
      refine wpAnyH_take (i := 2) (oi := _) (v := ?v2_31) rfl (by kernel_rfl) (by kernel_rfl) (by kernel_rfl) (fun _ _ _ h => h) (Or.inl ⟨by rfl, ?hy2_31⟩) (by assumption) ?rest2_31
      case hy2_31 =>
        intro w hSw
        (try dsimp only at hSw)
        go_simp
        rfl
      case' rest2_31 => try simp only [Act.put, List.setIfInBounds_toArray, List.set_cons_zero, List.set_cons_succ, List.getElem_toArray, List.getElem_cons_zero, List.getElem_cons_succ]
      refine wpAnyH_skip 3 (some 128) (by kernel_rfl) (by kernel_rfl) (by kernel_rfl) (by kernel_rfl) (fun _ _ _ h => h) (by rfl) (by assumption) ?r3_32
      try simp only [Act.put, List.setIfInBounds_toArray, List.set_cons_zero, List.set_cons_succ, List.getElem_toArray, List.getElem_cons_zero, List.getElem_cons_succ]
      refine wpAnyH_skip 4 (some 129) (by kernel_rfl) (by kernel_rfl) (by kernel_rfl) (by kernel_rfl) (fun _ _ _ h => h) (by rfl) (by assumption) ?r4_33
      try simp only [Act.put, List.setIfInBounds_toArray, List.set_cons_zero, List.set_cons_succ, List.getElem_toArray, List.getElem_cons_zero, List.getElem_cons_succ]
      refine wpAnyH_skip 5 (some 130) (by kernel_rfl) (by kernel_rfl) (by kernel_rfl) (by kernel_rfl) (fun _ _ _ h => h) (by rfl) (by assumption) ?r5_34
      try simp only [Act.put, List.setIfInBounds_toArray, List.set_cons_zero, List.set_cons_succ, List.getElem_toArray, List.getElem_cons_zero, List.getElem_cons_succ]
      refine wpAnyH_skip 6 (some 131) (by kernel_rfl) (by kernel_rfl) (by kernel_rfl) (by kernel_rfl) (fun _ _ _ h => h) (by rfl) (by assumption) ?r6_35
      try simp only [Act.put, List.setIfInBounds_toArray, List.set_cons_zero, List.set_cons_succ, List.getElem_toArray, List.getElem_cons_zero, List.getElem_cons_succ]
      refine wpAnyH_skip 7 (some 132) (by kernel_rfl) (by kernel_rfl) (by kernel_rfl) (by kernel_rfl) (fun _ _ _ h => h) (by rfl) (by assumption) ?r7_36
      try simp only [Act.put, List.setIfInBounds_toArray, List.set_cons_zero, List.set_cons_succ, List.getElem_toArray, List.getElem_cons_zero, List.getElem_cons_succ]
      refine wpAnyH_skip 8 (some 133) (by kernel_rfl) (by kernel_rfl) (by kernel_rfl) (by kernel_rfl) (fun _ _ _ h => h) (by rfl) (by assumption) ?r8_37
      try simp only [Act.put, List.setIfInBounds_toArray, List.set_cons_zero, List.set_cons_succ, List.getElem_toArray, List.getElem_cons_zero, List.getElem_cons_succ]
      refine wpAnyH_take (i := 9) (oi := _) (v := ?v9_38) rfl (by kernel_rfl) (by kernel_rfl) (by kernel_rfl) (fun _ _ _ h => h) (Or.inl ⟨by rfl, ?hy9_38⟩) (by assumption) ?rest9_38
      case hy9_38 =>
        intro w hSw
        (try dsimp only at hSw)
        go_simp
        rfl
      case' rest9_38 => try simp only [Act.put, List.setIfInBounds_toArray, List.set_cons_zero, List.set_cons_succ, List.getElem_toArray, List.getElem_cons_zero, List.getElem_cons_succ]
      refine wpAnyH_done (by kernel_rfl) ?_ _
      clear hHeld
      go_wp2_with fail
      go_meet
      exact ⟨rfl, HB2.out⟩
  obtain ⟨rfl, HBB⟩ := hcut
  clear HG HLO HB1 HJ
  generalize wc = wd2 at HBB ⊢
  go_upto_region 15 with (go_at_call 10; ((with_reducible refine (HFR.out _ HBB.out).mono ?_); rintro e w3 ⟨a3, c3, rfl, hr3, hb3⟩; have HB3 := Lib.hid (HBB.out.trans (hb3.mono HBB.out.size)); have HR3 := Lib.hid hr3; clear hr3 hb3))
  have hln := HLN.out.1
  have hln2 := HLN.out.2
  have HFN : FL.length ≤ 9000 := by rw [HFL.out]; omega
  have HUF : Hid (∀ a c w', RowB w' a (FL ++ l2) → FL.length + l2.length ≤ c → Calls Try.prog 12 #[.slice a (FL.length + l2.length) c] w' (RetUn w' (l, (FL.length : Int), 0))) := fun a c w' hr hc => by
    have h := unframe_all a (FL ++ l2) (FL.length + l2.length) c w' List.length_append hc (by omega) hr
    have he : (8 + (l.length : Int)) = (FL.length : Int) := by rw [HFL.out]; omega
    rw [HUN.out, he] at h; exact h
  have HCA : Hid (∀ w' a c, RowB w' a l → (convert 22 9 (.slice a l.length c)).run Try.prog w' = .ok (.string ⟨l.toArray⟩) w') := fun w' a c h => conv_bytes h rfl
  have hps : ∀ w, Sem.run Try.prog (pure (#[] : Array Value)) w = .ok #[] w := fun _ => rfl
  have hss : ∀ p w, Sem.run Try.prog (storeCells p []) w = .ok () w := fun _ _ => rfl
  go_upto_region 16 with (first
    | (have hgq := HCAN5; clear hgq; go_at_call 12; ((with_reducible refine (HUF.out a5 c5 w5 HROW5.out HCAN5.out.le).mono ?_); rintro e w7 ⟨a7, c7, rfl, hr7, hb7⟩; have HB7 := Lib.hid (HB5.out.trans (hb7.mono HB5.out.size)); have HR7 := Lib.hid hr7; have g1 := HCA.out w7 a7 c7 hr7; have g2 := HCA.out w7 a c (HROW.out w7 HB7.out); clear hr7 hb7))
    | (have hgq := HCAN4; clear hgq; at_builtin; (refine wpList_can el_bytes rfl (.tmp 143) (.tmp 144) rfl w3.heap.size a4 FL.length c4 (FL.map B) rfl HCAN4.out a2 l2.length c2 (l2.map B) rfl (by rw [List.length_map, Nat.mul_one]) (HROW2.out _ HB4.out) (bytes_one _) (by omega) HS4.out ?_); intro a5 c5 w5 hcan5 _ hb5 _; have HCAN5 := Lib.hid hcan5; have HB5 := Lib.hid (HB4.out.trans (hb5.mono HB3.out.size)); have HROW5 : Hid (RowB w5 a5 (FL ++ l2)) := by { show Row _ _ _; rw [List.map_append]; exact hcan5.row }; clear hcan5 hb5)
    | (at_builtin; (refine wpList_can el_bytes rfl (.tmp 141) (.tmp 142) rfl w3.heap.size (some ⟨w3.heap.size, 0, none⟩) 0 0 [] rfl (Can.empty _ _ _ _ _) a3 FL.length c3 (FL.map B) rfl (by rw [List.length_map, Nat.mul_one]) (HR3.out.below ((Below.refl _ _).alloc (Nat.le_refl _) _)) (bytes_one _) (by omega) (by simp) ?_); intro a4 c4 w4 hcan4 _ hb4 _; rw [Nat.zero_add, List.nil_append] at hcan4; have HCAN4 := Lib.hid hcan4; have HB4 := Lib.hid (HB3.out.trans (((Below.refl w.heap.size w3).alloc HB3.out.size _).trans (hb4.mono HB3.out.size))); have HS4 := Lib.hid (show w3.heap.size ≤ w4.heap.size by have := hb4.size; simp at this; omega); clear hcan4 hb4))
  clear hps hss
  go_wp2_with (have hgq := HR7; clear hgq; go_at_call 9; ((with_reducible refine (wakes_any _).mono ?_); rintro e ww ⟨rfl, hb⟩; have HB8 := Lib.hid (HB7.out.trans (hb.mono HB7.out.size)); clear hb))
  go_returns
  exact ⟨rfl, HB8.out⟩
end Go.Proofs.Ytlckgnemmffdkaa
