/- What the document says of the zero answer, and of nothing framed. -/
import Derived.Test.YtlckgnemmffdkaaWirAnsW
import Derived.Test.YtlckgnemmffdkaaWirReadA
import Derived.Test.YtlckgnemmffdkaaWirUnf
namespace Go.Proofs.Ytlckgnemmffdkaa
open Go.ChangeShapes Go.WideShapes Go.ChangeAt Go.RowKit
set_option maxRecDepth 100000

theorem zero_len : (encWAns ⟨0, 0, 0, 0, 0⟩).length = 40 := by kernel_rfl
theorem zero_frame : frameL [] = [0, 0, 0, 0, 0, 0, 0, 0] := by kernel_rfl
theorem zero_unframe : unframeL [0, 0, 0, 0, 0, 0, 0, 0, 9] = ([], 8, 0) := by kernel_rfl
theorem zero_read : readP ans0 wAnsP ((encWAns ⟨0, 0, 0, 0, 0⟩).take 39) = (ans0, 39, 50) := by kernel_rfl
theorem unframe9 (w : World) : Calls Try.prog 12 #[.slice (some ⟨w.heap.size, 0, none⟩) 9 9] (w.alloc (.cells #[.int .u8 0, .int .u8 0, .int .u8 0, .int .u8 0, .int .u8 0, .int .u8 0, .int .u8 0, .int .u8 0, .int .u8 9] 5)) (RetUn (w.alloc (.cells #[.int .u8 0, .int .u8 0, .int .u8 0, .int .u8 0, .int .u8 0, .int .u8 0, .int .u8 0, .int .u8 0, .int .u8 9] 5)) ([], 8, 0)) := by
  have hr : RowB (w.alloc (.cells #[.int .u8 0, .int .u8 0, .int .u8 0, .int .u8 0, .int .u8 0, .int .u8 0, .int .u8 0, .int .u8 0, .int .u8 9] 5)) (some ⟨w.heap.size, 0, none⟩) [0, 0, 0, 0, 0, 0, 0, 0, 9] := Row.new w #[.int .u8 0, .int .u8 0, .int .u8 0, .int .u8 0, .int .u8 0, .int .u8 0, .int .u8 0, .int .u8 0, .int .u8 9] _ _
  obtain ⟨b, o, hb, hc⟩ := RowB.at hr (k := 0) (by simp)
  simp only [Option.some.injEq, Addr.mk.injEq] at hb
  obtain ⟨rfl, rfl, -⟩ := hb
  rw [← zero_unframe]
  exact unframe_more _ 0 [0, 0, 0, 0, 0, 0, 0, 0, 9] 9 9 _ rfl (by omega) (by omega) (by omega) hr hc
def RetTrue (w : World) (e : Ending) (w' : World) : Prop := e = .returned (.bool true) ∧ Below w.heap.size w w'
set_option maxHeartbeats 4000000 in
theorem wakes_any (w : World) : Calls Try.prog 9 #[] w (RetTrue w) := by
  have HA := Lib.hid (answer_bytes 0 0 0 0 0 w)
  generalize hL : encWAns ⟨0, 0, 0, 0, 0⟩ = L at HA
  have h40 : L.length = 40 := by rw [← hL]; exact zero_len
  have HZR := Lib.hid zero_read
  rw [hL] at HZR
  have HZF := Lib.hid zero_frame
  have HFR := Lib.hid (fun w => frame_any none [] 0 0 w rfl (by omega) (.inl rfl))
  rw [HZF.out] at HFR
  clear HZF
  have H40 := Lib.hid h40
  clear hL h40
  go_enter Try.func9, Try.ntmps9
  go_wp2_with (first
    | (go_at_call 26; ((with_reducible refine HA.out.mono ?_); rintro e w1 ⟨a1, c1, rfl, hr1, hb1, hc1⟩; rw [H40.out]; have HR1 := Lib.hid hr1; have HB1 := Lib.hid hb1; have hc1' : 40 ≤ c1 := (by rw [H40.out] at hc1; exact hc1); clear hr1 hb1 hc1))
    | (go_at_call 10; ((with_reducible refine (HFR.out _).mono ?_); rintro e w2 ⟨a2, c2, rfl, hr2, hb2⟩; have HB2 := Lib.hid (HB1.out.trans (hb2.mono HB1.out.size)); have HR1a := Lib.hid (HR1.out.below hb2); have HR2 := Lib.hid hr2; clear hr2 hb2))
    | (go_at_call 12; ((with_reducible refine (unframe9 _).mono ?_); rintro e w3 ⟨a3, c3, rfl, hr3, hb3⟩; have hq3 := mid_alloc' hb3; have HB3 := Lib.hid (HB2.out.trans (hq3.mono HB2.out.size)); have hr2b := HR2.out.below hq3; have hcv := conv_bytes (n := 8) (c := c2) hr2b rfl; have HR1b := Lib.hid (HR1a.out.below hq3); have HRD := Lib.hid (readanswer_any a1 c1 (L.take 39) w3 (by have := (HR1a.out.below hq3).take 39; rw [← List.map_take] at this; exact this) (by rw [List.length_take]; omega) (by rw [List.length_take]; omega)); rw [HZR.out, show (L.take 39).length = 39 by rw [List.length_take, H40.out]; rfl] at HRD; clear hb3 hq3 hr2b hr3))
    | (go_at_call 21; ((with_reducible refine HRD.out.mono ?_); rintro e w4 ⟨rfl, hb4⟩; have HB4 := Lib.hid (HB3.out.trans (hb4.mono HB3.out.size)); clear hb4; unfold ansV ans0)))
  go_ret
  exact ⟨rfl, HB4.out.trans ((mid_alloc' (Below.refl _ _)).mono HB4.out.size)⟩
end Go.Proofs.Ytlckgnemmffdkaa
