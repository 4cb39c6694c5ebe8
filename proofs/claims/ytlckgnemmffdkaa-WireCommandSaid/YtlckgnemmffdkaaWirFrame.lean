/- Frames: the program's and the document's. -/
import Derived.Test.YtlckgnemmffdkaaWirFour
namespace Go.Proofs.Ytlckgnemmffdkaa
open Go.ChangeShapes Go.WideShapes Go.ChangeAt Go.RowKit
set_option maxRecDepth 100000

/-- Bytes and an error. -/
def RetBE (w : World) (l : List UInt8) (k : Int) (e : Ending) (w' : World) : Prop := ∃ a c, e = .returned (.tuple #[.slice a l.length c, .int .i64 k]) ∧ RowB w' a l ∧ Below w.heap.size w w'
theorem frame_long (a : Option Addr) (l : List UInt8) (n c : Nat) (w : World) (hn : l.length = n) (hl : 65536 < n) (hl2 : n ≤ 1000000) :
    Calls Try.prog 10 #[.slice a n c] w (RetBE w [] 3) := by
  have d1 : decide ((65536 : Int) < (n : Int)) = true := decide_eq_true (by omega)
  go_enter Try.func10, Try.ntmps10
  go_wp2
  go_ret2
  exact ⟨none, 0, rfl, .inl rfl, Below.refl _ _⟩
theorem refframe_long (a : Option Addr) (l : List UInt8) (n c : Nat) (w : World) (hn : l.length = n) (hl : 65536 < n) (hl2 : n ≤ 1000000) :
    Calls Try.prog 11 #[.slice a n c] w (RetBE w [] 3) := by
  have d1 : decide ((65536 : Int) < (n : Int)) = true := decide_eq_true (by omega)
  go_enter Try.func11, Try.ntmps11
  go_wp2
  go_ret2
  exact ⟨none, 0, rfl, .inl rfl, Below.refl _ _⟩
set_option maxHeartbeats 2000000 in
theorem frame_any (a : Option Addr) (l : List UInt8) (n c : Nat) (w : World) (hn : l.length = n) (hl : n ≤ 65536) (hr : RowB w a l) :
    Calls Try.prog 10 #[.slice a n c] w (RetBE w (frameL l) 0) := by
  subst hn
  have d1 : decide ((65536 : Int) < (l.length : Int)) = false := decide_eq_false (by omega)
  have HR := Lib.hid hr
  have HS := Lib.hid (sumMore_lt 0 l)
  have HSU := Lib.hid (fun w' (hb : Below w.heap.size w w') => sum_any a l l.length c w' rfl (le_maxLen (by omega)) (hr.below hb))
  have HF4 := Lib.hid (fun w' => four_any l.length w' (by omega))
  have HF5 := Lib.hid (fun w' => four_any (sumMore 0 l) w' HS.out)
  obtain ⟨m, hm⟩ : ∃ m, sumMore 0 l = m := ⟨_, rfl⟩
  have HMM := Lib.hid hm
  rw [hm] at HS HSU HF5
  clear hm
  clear hr HS
  go_enter Try.func10, Try.ntmps10
  go_wp2_with (first
    | (have hgq := HCAN; clear hgq; at_builtin; (refine wpList_can el_bytes rfl (.tmp 14) (.tmp 15) rfl w4.heap.size a3 8 c3 ((beN 4 l.length).map B ++ (beN 4 m).map B) rfl HCAN.out a l.length c (l.map B) rfl (by rw [List.length_map, Nat.mul_one]) (HR.out.below HB5.out) (bytes_one _) (by omega) hb5.size ?_); intro a6 c6 w6 hcan6 _ hb6 _; have HCAN6 := Lib.hid hcan6; have HB6 := Lib.hid (HB5.out.trans (hb6.mono HB4.out.size)); clear hcan6 hb6)
    | (have hgq := HR4; clear hgq; at_builtin; (refine wpList_can el_bytes rfl (.tmp 10) (.tmp 13) rfl w4.heap.size a1 4 4 ((beN 4 l.length).map B) rfl (Can.full (HR2.out.below hb4) (by rw [List.length_map, beN_length]) (by decide)) a2 4 4 ((beN 4 m).map B) rfl (by rw [List.length_map, beN_length]) HR4.out (bytes_one _) (by decide) (Nat.le_refl _) ?_); intro a3 c3 w5 hcan5 _ hb5 _; have HCAN := Lib.hid hcan5; have HB5 := Lib.hid (HB4.out.trans (hb5.mono HB4.out.size)); clear hcan5)
    | (have hgq := HR2; clear hgq; go_at_call 40; ((with_reducible refine (HF5.out _).mono ?_); rintro e w4 ⟨a2, rfl, hr4, hb4⟩; have HR4 := Lib.hid hr4; have HB4 := Lib.hid (HB2.out.trans (hb4.mono HB2.out.size)); clear hr4))
    | (have hgq := HR2; clear hgq; go_at_call 41; ((with_reducible refine (HSU.out w2 HB2.out).mono ?_); rintro e w3 ⟨rfl, rfl⟩))
    | (go_at_call 40; ((with_reducible refine (HF4.out _).mono ?_); rintro e w2 ⟨a1, rfl, hr2, hb2⟩; have HR2 := Lib.hid hr2; have HB2 := Lib.hid hb2; clear hr2 hb2)))
  go_ret2
  refine ⟨a6, c6, by rw [frameL_length]; rfl, ?_, HB6.out⟩
  have h6 := HCAN6.out.row
  have HM0 := HMM.out
  unfold frameL
  show Row _ _ _
  rw [List.map_append, List.map_append, HM0]
  exact h6
set_option maxHeartbeats 2000000 in
theorem refframe_any (a : Option Addr) (l : List UInt8) (n c : Nat) (w : World) (hn : l.length = n) (hl : n ≤ 65536) (hr : RowB w a l) :
    Calls Try.prog 11 #[.slice a n c] w (RetBE w (frameL l) 0) := by
  subst hn
  have d1 : decide ((65536 : Int) < (l.length : Int)) = false := decide_eq_false (by omega)
  have HR := Lib.hid hr
  have HS := Lib.hid (sumMore_lt 0 l)
  have HSU := Lib.hid (fun w' (hb : Below w.heap.size w w') => refsum_any a l l.length c w' rfl (le_maxLen (by omega)) (hr.below hb))
  have HF4 := Lib.hid (fun w' => reffour_any l.length w' (by omega))
  have HF5 := Lib.hid (fun w' => reffour_any (sumMore 0 l) w' HS.out)
  obtain ⟨m, hm⟩ : ∃ m, sumMore 0 l = m := ⟨_, rfl⟩
  have HMM := Lib.hid hm
  rw [hm] at HS HSU HF5
  clear hm
  clear hr HS
  go_enter Try.func11, Try.ntmps11
  go_wp2_with (first
    | (have hgq := HCAN; clear hgq; at_builtin; (refine wpList_can el_bytes rfl (.tmp 16) (.tmp 17) rfl w4.heap.size a3 8 c3 ((beN 4 l.length).map B ++ (beN 4 m).map B) rfl HCAN.out a l.length c (l.map B) rfl (by rw [List.length_map, Nat.mul_one]) (HR.out.below HB5.out) (bytes_one _) (by omega) hb5.size ?_); intro a6 c6 w6 hcan6 _ hb6 _; have HCAN6 := Lib.hid hcan6; have HB6 := Lib.hid (HB5.out.trans (hb6.mono HB4.out.size)); clear hcan6 hb6)
    | (have hgq := HR4; clear hgq; at_builtin; (refine wpList_can el_bytes rfl (.tmp 11) (.tmp 14) rfl w4.heap.size a1 4 4 ((beN 4 l.length).map B) rfl (Can.full (HR2.out.below hb4) (by rw [List.length_map, beN_length]) (by decide)) a2 4 4 ((beN 4 m).map B) rfl (by rw [List.length_map, beN_length]) HR4.out (bytes_one _) (by decide) (Nat.le_refl _) ?_); intro a3 c3 w5 hcan5 _ hb5 _; have HCAN := Lib.hid hcan5; have HB5 := Lib.hid (HB4.out.trans (hb5.mono HB4.out.size)); clear hcan5)
    | (have hgq := HR2; clear hgq; go_at_call 42; ((with_reducible refine (HF5.out _).mono ?_); rintro e w4 ⟨a2, rfl, hr4, hb4⟩; have HR4 := Lib.hid hr4; have HB4 := Lib.hid (HB2.out.trans (hb4.mono HB2.out.size)); clear hr4))
    | (have hgq := HR2; clear hgq; go_at_call 43; ((with_reducible refine (HSU.out w2 HB2.out).mono ?_); rintro e w3 ⟨rfl, rfl⟩))
    | (go_at_call 42; ((with_reducible refine (HF4.out _).mono ?_); rintro e w2 ⟨a1, rfl, hr2, hb2⟩; have HR2 := Lib.hid hr2; have HB2 := Lib.hid hb2; clear hr2 hb2)))
  go_ret2
  refine ⟨a6, c6, by rw [frameL_length]; rfl, ?_, HB6.out⟩
  have h6 := HCAN6.out.row
  have HM0 := HMM.out
  unfold frameL
  show Row _ _ _
  rw [List.map_append, List.map_append, HM0]
  exact h6
end Go.Proofs.Ytlckgnemmffdkaa
