/- The law of frames. -/
import Derived.Test.YtlckgnemmffdkaaWirWakes
import Derived.Test.YtlckgnemmffdkaaWirRefUnf
namespace Go.Proofs.Ytlckgnemmffdkaa
open Go.ChangeShapes Go.WideShapes Go.ChangeAt Go.RowKit
set_option maxRecDepth 100000

theorem unframe_all (a : Option Addr) (l : List UInt8) (n c : Nat) (w : World) (hn : l.length = n) (hc : n ≤ c) (hl : n ≤ 200000) (hr : RowB w a l) : Calls Try.prog 12 #[.slice a n c] w (RetUn w (unframeL l)) := by
  by_cases h8 : n < 8
  · have e : unframeL l = ([], 0, 50) := by unfold unframeL; rw [if_pos (by omega)]
    rw [e]; exact unframe_short a l n c w hn h8
  · obtain ⟨b, o, rfl, h⟩ := RowB.at hr (k := 0) (by omega)
    exact unframe_more b o l n c w hn hc (by omega) hl hr h
theorem refunframe_all (a : Option Addr) (l : List UInt8) (n c : Nat) (w : World) (hn : l.length = n) (hc : n ≤ c) (hl : n ≤ 200000) (hr : RowB w a l) : Calls Try.prog 13 #[.slice a n c] w (RetUn w (unframeL l)) := by
  by_cases h8 : n < 8
  · have e : unframeL l = ([], 0, 50) := by unfold unframeL; rw [if_pos (by omega)]
    rw [e]; exact refunframe_short a l n c w hn h8
  · obtain ⟨b, o, rfl, h⟩ := RowB.at hr (k := 0) (by omega)
    exact refunframe_more b o l n c w hn hc (by omega) hl hr h
theorem frame_all (a : Option Addr) (l : List UInt8) (n c : Nat) (w : World) (hn : l.length = n) (hl : n ≤ 200000) (hr : RowB w a l) : ∃ F k, Calls Try.prog 10 #[.slice a n c] w (RetBE w F k) ∧ ∀ w', Below w.heap.size w w' → Calls Try.prog 11 #[.slice a n c] w' (RetBE w' F k) := by
  by_cases h : n ≤ 65536
  · exact ⟨_, _, frame_any a l n c w hn h hr, fun w' hb => refframe_any a l n c w' hn h (hr.below hb)⟩
  · exact ⟨_, _, frame_long a l n c w hn (by omega) (by omega), fun w' hb => refframe_long a l n c w' hn (by omega) (by omega)⟩
set_option maxHeartbeats 4000000 in
theorem law_frame (a : Option Addr) (l : List UInt8) (n c : Nat) (w : World) (hn : l.length = n) (hc : n ≤ c) (hr : RowB w a l) :
    Calls Try.prog 3 #[.slice a n c] w fun e w' => e = .returned (.bool true) ∧ Below w.heap.size w w' := by
  by_cases hg : (4000 < n ∧ n ≤ 65536) ∨ 131072 < n
  · have HN := Lib.hid hn
    clear hn hr
    by_cases h1 : 4000 < n
    · by_cases h2 : n ≤ 65536
      · have d1 : decide ((4000 : Int) < n) = true := decide_eq_true (by omega)
        have d2 : decide ((n : Int) ≤ 65536) = true := decide_eq_true (by omega)
        go_enter Try.func3, Try.ntmps3
        go_wp2_with (go_at_call 9; ((with_reducible refine (wakes_any _).mono ?_); rintro e w' ⟨rfl, hb⟩))
        go_returns
        exact ⟨rfl, hb⟩
      · have d1 : decide ((4000 : Int) < n) = true := decide_eq_true (by omega)
        have d2 : decide ((n : Int) ≤ 65536) = false := decide_eq_false (by omega)
        have d3 : decide ((131072 : Int) < n) = true := decide_eq_true (by omega)
        go_enter Try.func3, Try.ntmps3
        go_wp2_with (go_at_call 9; ((with_reducible refine (wakes_any _).mono ?_); rintro e w' ⟨rfl, hb⟩))
        go_returns
        exact ⟨rfl, hb⟩
    · omega
  · have hl2 : n ≤ 131072 := by omega
    obtain ⟨F, k, hF, hG⟩ := frame_all a l n c w hn (by omega) hr
    have HU := Lib.hid (fun w' (h : RowB w' a l) => unframe_all a l n c w' hn hc (by omega) h)
    have HV := Lib.hid (fun w' (h : RowB w' a l) => refunframe_all a l n c w' hn hc (by omega) h)
    obtain ⟨U, i, j, hUE⟩ : ∃ U i j, unframeL l = (U, i, j) := ⟨_, _, _, rfl⟩
    rw [hUE] at HU HV
    have HF := Lib.hid hF
    have HG := Lib.hid hG
    have HR := Lib.hid hr
    clear hF hG hr hUE hn
    have hd : (decide ((4000 : Int) < n) = true ∧ decide ((n : Int) ≤ 65536) = false) ∨ decide ((4000 : Int) < n) = false := by
      by_cases h1 : (4000 : Int) < n
      · exact .inl ⟨decide_eq_true h1, decide_eq_false (by omega)⟩
      · exact .inr (decide_eq_false h1)
    have d3 : decide ((131072 : Int) < n) = false := decide_eq_false (by omega)
    clear hg
    rcases hd with ⟨d1, d2⟩ | d1
    all_goals
      go_enter Try.func3, Try.ntmps3
      go_wp2_with (first
        | (go_at_call 9; ((with_reducible refine (wakes_any _).mono ?_); rintro e w5 ⟨rfl, hb5⟩; have HB5 := Lib.hid (HB4.out.trans (hb5.mono HB4.out.size)); clear hb5))
        | (go_at_call 13; ((with_reducible refine (HV.out _ (HR.out.below HB3.out)).mono ?_); rintro e w4 ⟨a4, c4, rfl, hr4, hb4⟩; have HB4 := Lib.hid (HB3.out.trans (hb4.mono HB3.out.size)); have h4 := conv_bytes (c := c4) hr4 rfl; have h3 := conv_bytes (c := c3) (HR3.out.below hb4) rfl; have h2 := conv_bytes (c := c2) ((HR2.out.below HB23.out).below hb4) rfl; have h1 := conv_bytes (c := c1) (((HR1.out.below HB12.out).below HB23.out).below hb4) rfl; clear hr4 hb4))
        | (go_at_call 12; ((with_reducible refine (HU.out _ (HR.out.below HB2.out)).mono ?_); rintro e w3 ⟨a3, c3, rfl, hr3, hb3⟩; have HR3 := Lib.hid hr3; have HB3 := Lib.hid (HB2.out.trans (hb3.mono HB2.out.size)); have HB23 := Lib.hid hb3; clear hr3 hb3))
        | (go_at_call 11; ((with_reducible refine (HG.out _ HB1.out).mono ?_); rintro e w2 ⟨a2, c2, rfl, hr2, hb2⟩; have HR2 := Lib.hid hr2; have HB2 := Lib.hid (HB1.out.trans (hb2.mono HB1.out.size)); have HB12 := Lib.hid hb2; clear hr2 hb2))
        | (go_at_call 10; ((with_reducible refine HF.out.mono ?_); rintro e w1 ⟨a1, c1, rfl, hr1, hb1⟩; have HR1 := Lib.hid hr1; have HB1 := Lib.hid hb1; clear hr1 hb1)))
      go_returns
      exact ⟨rfl, HB5.out⟩
end Go.Proofs.Ytlckgnemmffdkaa
