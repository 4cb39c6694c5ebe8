import Derived.Test.YtlckgnemmffdkaaWirCmd
import Derived.Test.YtlckgnemmffdkaaPackWireMessage2
import Derived.Test.YtlckgnemmffdkaaWirReadA
import Derived.Test.YtlckgnemmffdkaaWirUnf
set_option linter.unusedVariables false
set_option linter.unusedSimpArgs false
/- An answer within a thing, behind a writer's bytes. -/
namespace Go.Proofs.Ytlckgnemmffdkaa
open Go.ChangeShapes Go.WideShapes Go.ChangeAt Go.RowKit
set_option maxRecDepth 100000

set_option maxHeartbeats 8000000 in
theorem answer_wo (D g gx ox c : Nat) (a : Option Addr) (bs : List UInt8) (cs : List Value) (e rate burst lease size : Int) (w : World) (h : Cw w D g a c bs) (hD : D ≤ w.heap.size) (hx : Box w gx cs) (h0 : cs[ox]? = some (.int .i64 e)) (h1 : cs[ox + 1]? = some (.int .i64 rate)) (h2 : cs[ox + 2]? = some (.int .i64 burst)) (h3 : cs[ox + 3]? = some (.int .i64 lease)) (h4 : cs[ox + 4]? = some (.int .i64 size)) (hgx : gx ≠ g) (hxa : ∀ o s, a ≠ some ⟨gx, o, s⟩) (hn : bs.length ≤ 4000000) :
    Calls Try.prog 59 #[.pointer (some ⟨g, 0, none⟩), .pointer (some ⟨gx, ox, none⟩)] w (RetCw w D g a (bs ++ encWAns ⟨e, rate, burst, lease, size⟩)) := by
  have hcl : 0 < cs.length := by have := (List.getElem?_eq_some_iff.1 h0).1; omega
  have hol : ox < cs.length := (List.getElem?_eq_some_iff.1 h0).1
  have HCL : Hid (∀ k (h : k < ([rate, burst, lease, size] : List Int).length), ∀ wr, Box wr gx cs → wr.cell? ⟨gx, ox + (k + 1), none⟩ = some (.int .i64 (([rate, burst, lease, size] : List Int)[k]))) := fun k h wr hb => by
    rcases (show k = 0 ∨ k = 1 ∨ k = 2 ∨ k = 3 by simp at h; omega) with rfl | rfl | rfl | rfl
    · exact hb.cell h1
    · exact hb.cell h2
    · exact hb.cell h3
    · exact hb.cell h4
  have HC := Lib.hid h
  have HX := Lib.hid hx
  have HN := Lib.hid (And.intro hgx hxa)
  have HNEW := Lib.hid h.new
  have x0 := hx.cell h0
  have H0 := Lib.hid h0
  have HXL := Lib.hid (hx.lt hcl)
  clear h hx hgx hxa h0 h1 h2 h3 h4
  go_enter Try.func59, Try.ntmps59
  have hba : Below w.heap.size w (w.alloc (.cells #[.int .i64 e] 3)) := (Below.refl _ _).alloc (Nat.le_refl _) _
  have HT := Lib.hid (Box.of_alloc (w := w) (cs := [.int .i64 e]) (t := 3) (Below.refl _ _))
  have HXA := Lib.hid (HX.out.next hcl hba)
  go_upto_region 3 with (go_at_call 79; have hnw := number_w D g w.heap.size 0 c a bs e (w.alloc (.cells #[.int .i64 e] 3)) (HC.out.below hba) (Nat.le_trans hD hba.size) (HT.out.cell (j := 0) rfl) HNEW.out.1 HNEW.out.2 (by omega); ((with_reducible refine hnw.mono ?_); clear hnw; rintro en w1 ⟨a1, c1, rfl, hcw1, hgr1⟩; have HX1 := Lib.hid (HXA.out.grew hcl hgr1 HN.out.1 HN.out.2); have HT1 := Lib.hid (HT.out.grew (by simp) hgr1 HNEW.out.1 HNEW.out.2); have q0 := HX1.out.cell H0.out; have z0 := HX1.out.froz hol; have t0 := HT1.out.cell (j := 0) rfl; have HC1 := Lib.hid hcw1; have HG1 := Lib.hid (hgr1.pre hba); clear hcw1 hgr1))
  rw [setCell_id (HX1.out.cell H0.out)]
  clear q0 z0 t0 x0
  go_quiet (fail)
  have HX2 := Lib.hid (HX1.out.next hcl (below_drewN (Below.refl w1.heap.size w1) nq))
  have HC2 := Lib.hid (HC1.out.below (below_drewN (Below.refl w1.heap.size w1) nq))
  have HG2 := Lib.hid (HG1.out.next (below_drewN (Below.refl w1.heap.size w1) nq))
  generalize w1.drewN nq = w2 at HX2 HC2 HG2 ⊢
  clear HX1 HT1 HC1 HG1
  have HI := Lib.hid (And.intro rate.le_refl rate.le_refl)
  go_wp2
  go_loopw [6, 30] (fun _ i wr => ∃ (k : Nat) (a3 : Option Addr) (c3 : Nat), k ≤ 4 ∧ i = .int .i64 k ∧ Hid (Cw wr D g a3 c3 (bs ++ be8 e ++ ([rate, burst, lease, size].take k).flatMap be8)) ∧ Hid (Grew g a a3 w wr)) (fun _ i _ => 4 - (intOf i).toNat)
  case atStart => exact ⟨0, a1, c1, by omega, rfl, by show Cw _ _ _ _ _ _; simpa using HC2.out, HG2.out⟩
  case round =>
    obtain ⟨k, a3, c3, hk, rfl, hcw, hgr⟩ := hrel
    have hDr : D ≤ wr.heap.size := Nat.le_trans hD hgr.out.size
    have hofa := hgr.out.off HXL.out HN.out.2
    by_cases hlt : k < 4
    · have hkv : k < ([rate, burst, lease, size] : List Int).length := hlt
      have hbw := HX.out.grew hcl hgr.out HN.out.1 HN.out.2
      have hll : (bs ++ be8 e ++ (([rate, burst, lease, size] : List Int).take k).flatMap be8).length ≤ 5000000 := by
        have h1 : ((([rate, burst, lease, size] : List Int).take k).flatMap be8).length = (([rate, burst, lease, size] : List Int).take k).length * 8 := flatMap_len8 _
        rw [List.length_append, List.length_append, h1, List.length_take, be8_length]; omega
      have HNW := Lib.hid (number_w D g gx (ox + (k + 1)) c3 a3 _ _ wr hcw.out hDr (HCL.out k hkv wr hbw) HN.out.1 hofa (by omega))
      have HTK := Lib.hid (show bs ++ be8 e ++ (([rate, burst, lease, size] : List Int).take (k + 1)).flatMap be8 = (bs ++ be8 e ++ (([rate, burst, lease, size] : List Int).take k).flatMap be8) ++ be8 (([rate, burst, lease, size] : List Int)[k]'hkv) by rw [List.take_succ_eq_append_getElem hkv, List.flatMap_append, List.flatMap_singleton]; simp only [List.append_assoc])
      generalize ([rate, burst, lease, size] : List Int)[k]'hkv = vk at HNW HTK
      have hidx : ∀ w, (Instr.index 156 (.agg #[.pointer (some ⟨gx, ox + 1, none⟩), .pointer (some ⟨gx, ox + 2, none⟩), .pointer (some ⟨gx, ox + 3, none⟩), .pointer (some ⟨gx, ox + 4, none⟩)]) (.int .i64 k)).run Try.prog w = .ok (.pointer (some ⟨gx, ox + (k + 1), none⟩)) w := fun _ => by
        clear hcw hgr HNW HTK hll hkv hbw hofa hDr
        rcases (show k = 0 ∨ k = 1 ∨ k = 2 ∨ k = 3 by omega) with rfl | rfl | rfl | rfl <;> kernel_rfl
      clear hll hkv hbw
      go_wp2_with (go_at_call 79; ((with_reducible refine HNW.out.mono ?_); rintro en w4 ⟨a4, c4, rfl, hcw4, hgr4⟩; have HC4 := Lib.hid hcw4; have HG4 := Lib.hid hgr4; clear hcw4 hgr4))
      exact ⟨⟨k + 1, a4, c4, by omega, by go_num, by show Cw _ _ _ _ _ _; rw [HTK.out]; exact HC4.out, hgr.out.trans HG4.out⟩, by simp [intOf]; omega⟩
    · obtain rfl : k = 4 := by omega
      go_wp2
      go_end0
      refine ⟨a3, c3, rfl, ?_, hgr.out⟩
      have h1 := hcw.out
      simpa [encWAns] using h1
end Go.Proofs.Ytlckgnemmffdkaa

/- What the document says of the zero answer, and of nothing framed. -/
namespace Go.Proofs.Ytlckgnemmffdkaa
open Go.ChangeShapes Go.WideShapes Go.ChangeAt Go.RowKit
set_option maxRecDepth 100000

theorem zero_len : (encWAns ⟨0, 0, 0, 0, 0⟩).length = 40 := by kernel_rfl
theorem zero_frame : frameL [] = [0, 0, 0, 0, 0, 0, 0, 0] := by kernel_rfl
theorem zero_unframe : unframeL [0, 0, 0, 0, 0, 0, 0, 0, 9] = ([], 8, 0) := by kernel_rfl
theorem zero_read : readP ans0 wAnsP ((encWAns ⟨0, 0, 0, 0, 0⟩).take 39) = (ans0, 39, 50) := by kernel_rfl
theorem unframe9 (w : World) : Calls Try.prog 12 #[.slice (some ⟨w.heap.size, 0, none⟩) 9 9] (w.alloc (.cells #[.int .u8 0, .int .u8 0, .int .u8 0, .int .u8 0, .int .u8 0, .int .u8 0, .int .u8 0, .int .u8 0, .int .u8 9] 5)) (RetUn (w.alloc (.cells #[.int .u8 0, .int .u8 0, .int .u8 0, .int .u8 0, .int .u8 0, .int .u8 0, .int .u8 0, .int .u8 0, .int .u8 9] 5)) ([], 8, 0)) := by
  have hr : RowB (w.alloc (.cells #[.int .u8 0, .int .u8 0, .int .u8 0, .int .u8 0, .int .u8 0, .int .u8 0, .int .u8 0, .int .u8 0, .int .u8 9] 5)) (some ⟨w.heap.size, 0, none⟩) [0, 0, 0, 0, 0, 0, 0, 0, 9] := Row.new w #[.int .u8 0, .int .u8 0, .int .u8 0, .int .u8 0, .int .u8 0, .int .u8 0, .int .u8 0, .int .u8 0, .int .u8 9] _ _
  obtain ⟨b, o, hb, hc⟩ := RowB.at hr (k := 0) (by simp)
  simp only [Option.some.injEq, Addr.mk.injEq] at hb
  obtain ⟨rfl, rfl, -⟩ := hb
  rw [← zero_unframe]
  exact unframe_more _ 0 [0, 0, 0, 0, 0, 0, 0, 0, 9] 9 9 _ rfl (by omega) (by omega) (by omega) hr hc
def RetTrue (w : World) (e : Ending) (w' : World) : Prop := e = .returned (.bool true) ∧ Below w.heap.size w w'
set_option maxHeartbeats 4000000 in
theorem wakes_any (w : World) : Calls Try.prog 9 #[] w (RetTrue w) := by
  have HA := Lib.hid (answer_bytes 0 0 0 0 0 w)
  generalize hL : encWAns ⟨0, 0, 0, 0, 0⟩ = L at HA
  have h40 : L.length = 40 := by rw [← hL]; exact zero_len
  have HZR := Lib.hid zero_read
  rw [hL] at HZR
  have HZF := Lib.hid zero_frame
  have HFR := Lib.hid (fun w => frame_any none [] 0 0 w rfl (by omega) (.inl rfl))
  rw [HZF.out] at HFR
  clear HZF
  have H40 := Lib.hid h40
  clear hL h40
  go_enter Try.func9, Try.ntmps9
  go_wp2_with (first
    | (go_at_call 26; ((with_reducible refine HA.out.mono ?_); rintro e w1 ⟨a1, c1, rfl, hr1, hb1, hc1⟩; rw [H40.out]; have HR1 := Lib.hid hr1; have HB1 := Lib.hid hb1; have hc1' : 40 ≤ c1 := (by rw [H40.out] at hc1; exact hc1); clear hr1 hb1 hc1))
    | (go_at_call 10; ((with_reducible refine (HFR.out _).mono ?_); rintro e w2 ⟨a2, c2, rfl, hr2, hb2⟩; have HB2 := Lib.hid (HB1.out.trans (hb2.mono HB1.out.size)); have HR1a := Lib.hid (HR1.out.below hb2); have HR2 := Lib.hid hr2; clear hr2 hb2))
    | (go_at_call 12; ((with_reducible refine (unframe9 _).mono ?_); rintro e w3 ⟨a3, c3, rfl, hr3, hb3⟩; have hq3 := mid_alloc' hb3; have HB3 := Lib.hid (HB2.out.trans (hq3.mono HB2.out.size)); have hr2b := HR2.out.below hq3; have hcv := conv_bytes (n := 8) (c := c2) hr2b rfl; have HR1b := Lib.hid (HR1a.out.below hq3); have HRD := Lib.hid (readanswer_any a1 c1 (L.take 39) w3 (by have := (HR1a.out.below hq3).take 39; rw [← List.map_take] at this; exact this) (by rw [List.length_take]; omega) (by rw [List.length_take]; omega)); rw [HZR.out, show (L.take 39).length = 39 by rw [List.length_take, H40.out]; rfl] at HRD; clear hb3 hq3 hr2b hr3))
    | (go_at_call 21; ((with_reducible refine HRD.out.mono ?_); rintro e w4 ⟨rfl, hb4⟩; have HB4 := Lib.hid (HB3.out.trans (hb4.mono HB3.out.size)); clear hb4; unfold ansV ans0)))
  go_ret
  exact ⟨rfl, HB4.out.trans ((mid_alloc' (Below.refl _ _)).mono HB4.out.size)⟩
end Go.Proofs.Ytlckgnemmffdkaa
