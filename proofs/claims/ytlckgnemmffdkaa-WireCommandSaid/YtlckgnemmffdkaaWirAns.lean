/- An answer behind a writer's bytes; an answer as bytes. -/
import Derived.Test.YtlckgnemmffdkaaWirSmall
import Derived.Test.YtlckgnemmffdkaaWirThings
import Derived.Deep.Cut
namespace Go.Proofs.Ytlckgnemmffdkaa
open Go.ChangeShapes Go.WideShapes Go.ChangeAt Go.RowKit
set_option maxRecDepth 100000

set_option maxHeartbeats 4000000 in
theorem answer_w (D g gx c : Nat) (a : Option Addr) (bs : List UInt8) (e rate burst lease size : Int) (w : World) (h : Cw w D g a c bs) (hD : D ≤ w.heap.size) (hx : Box w gx [.int .i64 e, .int .i64 rate, .int .i64 burst, .int .i64 lease, .int .i64 size]) (hgx : gx ≠ g) (hxa : ∀ o s, a ≠ some ⟨gx, o, s⟩) (hn : bs.length ≤ 9000000) :
    Calls Try.prog 59 #[.pointer (some ⟨g, 0, none⟩), .pointer (some ⟨gx, 0, none⟩)] w (fun en w' => RetCw w D g a (bs ++ encWAns ⟨e, rate, burst, lease, size⟩) en w' ∧ Box w' gx [.int .i64 e, .int .i64 rate, .int .i64 burst, .int .i64 lease, .int .i64 size]) := by
  have HC := Lib.hid h
  have HX := Lib.hid hx
  have HN := Lib.hid (And.intro hgx hxa)
  have HNEW := Lib.hid h.new
  have x0 := hx.cell (j := 0) rfl
  have HB8 := Lib.hid be8_length
  clear h hx hgx hxa
  go_enter Try.func59, Try.ntmps59
  have hba : Below w.heap.size w (w.alloc (.cells #[.int .i64 e] 3)) := (Below.refl _ _).alloc (Nat.le_refl _) _
  have HT := Lib.hid (Box.of_alloc (w := w) (cs := [.int .i64 e]) (t := 3) (Below.refl _ _))
  have HXA := Lib.hid (HX.out.next (by simp) hba)
  go_upto_region 3 with (go_at_call 79; have hnw := number_w D g w.heap.size 0 c a bs e (w.alloc (.cells #[.int .i64 e] 3)) (HC.out.below hba) (Nat.le_trans hD hba.size) (HT.out.cell (j := 0) rfl) HNEW.out.1 HNEW.out.2 (by omega); ((with_reducible refine hnw.mono ?_); clear hnw; rintro en w1 ⟨a1, c1, rfl, hcw1, hgr1⟩; have HX1 := Lib.hid (HXA.out.grew (by simp) hgr1 HN.out.1 HN.out.2); have HT1 := Lib.hid (HT.out.grew (by simp) hgr1 HNEW.out.1 HNEW.out.2); have q0 := HX1.out.cell (j := 0) rfl; have z0 := HX1.out.froz (j := 0) (show 0 < 5 by decide); have t0 := HT1.out.cell (j := 0) rfl; have HC1 := Lib.hid hcw1; have HG1 := Lib.hid hgr1; clear hcw1 hgr1))
  rw [setCell_id (HX1.out.cell (j := 0) rfl)]
  clear q0 z0 t0 x0
  go_quiet (fail)
  have HX2 := Lib.hid (HX1.out.below (below_drewN (Below.refl w1.heap.size w1) nq) (HX1.out.lt (by simp)))
  have HC2 := Lib.hid (HC1.out.below (below_drewN (Below.refl w1.heap.size w1) nq))
  have HG2 : Hid (Grew g a a1 w (w1.drewN nq)) := by
    have hb := below_drewN (Below.refl w1.heap.size w1) nq
    have h1 := HG1.out
    refine ⟨hb.os.trans h1.os, hb.tape.trans h1.tape, hb.output.trans h1.output, Nat.le_trans (Nat.le_trans (by simp) h1.size) hb.size, fun k hk hkg hka => ?_, h1.near.mono (by simp)⟩
    rw [hb.block k (Nat.lt_of_lt_of_le hk (Nat.le_trans (by simp) h1.size)), h1.keep k (Nat.lt_of_lt_of_le hk (by simp)) hkg hka]
    exact heap_alloc_old _ _ hk
  generalize w1.drewN nq = w2 at HX2 HC2 HG2 ⊢
  clear HX1 HT1 HC1 HG1
  have HI := Lib.hid (And.intro rate.le_refl rate.le_refl)
  go_wp2
  go_loopw [6, 30] (fun _ i wr => ∃ (k : Nat) (a3 : Option Addr) (c3 : Nat), k ≤ 4 ∧ i = .int .i64 k ∧ Hid (Cw wr D g a3 c3 (bs ++ be8 e ++ ([rate, burst, lease, size].take k).flatMap be8)) ∧ Hid (Grew g a a3 w wr) ∧ Hid (Box wr gx [.int .i64 e, .int .i64 rate, .int .i64 burst, .int .i64 lease, .int .i64 size])) (fun _ i _ => 4 - (intOf i).toNat)
  case atStart => exact ⟨0, a1, c1, by omega, rfl, by show Cw _ _ _ _ _ _; simpa using HC2.out, HG2.out, HX2.out⟩
  case round =>
    obtain ⟨k, a3, c3, hk, rfl, hcw, hgr, hbx⟩ := hrel
    have hDr : D ≤ wr.heap.size := Nat.le_trans hD hgr.out.size
    have hofa := hgr.out.off (HX.out.lt (by simp)) HN.out.2
    by_cases hlt : k < 4
    · rcases (show k = 0 ∨ k = 1 ∨ k = 2 ∨ k = 3 by omega) with rfl | rfl | rfl | rfl
      · have hnw := number_w D g gx 1 c3 a3 _ rate wr hcw.out hDr (hbx.out.cell (j := 1) rfl) HN.out.1 hofa (by simp [be8_length]; omega)
        have HNW := Lib.hid hnw
        clear hnw
        have hidx : ∀ w, (Instr.index 156 (.agg #[.pointer (some ⟨gx, 1, none⟩), .pointer (some ⟨gx, 2, none⟩), .pointer (some ⟨gx, 3, none⟩), .pointer (some ⟨gx, 4, none⟩)]) (.int .i64 0)).run Try.prog w = .ok (.pointer (some ⟨gx, 1, none⟩)) w := fun _ => by kernel_rfl
        go_wp2_with (go_at_call 79; ((with_reducible refine HNW.out.mono ?_); rintro en w4 ⟨a4, c4, rfl, hcw4, hgr4⟩; have HC4 := Lib.hid hcw4; have HG4 := Lib.hid hgr4; have HX4 := Lib.hid (hbx.out.grew (by simp) hgr4 HN.out.1 hofa); clear hcw4 hgr4))
        exact ⟨⟨1, a4, c4, by omega, rfl, by show Cw _ _ _ _ _ _; have h1 := HC4.out; simpa using h1, hgr.out.trans HG4.out, HX4.out⟩, by simp [intOf]⟩
      · have hnw := number_w D g gx 2 c3 a3 _ burst wr hcw.out hDr (hbx.out.cell (j := 2) rfl) HN.out.1 hofa (by simp [be8_length]; omega)
        have HNW := Lib.hid hnw
        clear hnw
        have hidx : ∀ w, (Instr.index 156 (.agg #[.pointer (some ⟨gx, 1, none⟩), .pointer (some ⟨gx, 2, none⟩), .pointer (some ⟨gx, 3, none⟩), .pointer (some ⟨gx, 4, none⟩)]) (.int .i64 1)).run Try.prog w = .ok (.pointer (some ⟨gx, 2, none⟩)) w := fun _ => by kernel_rfl
        go_wp2_with (go_at_call 79; ((with_reducible refine HNW.out.mono ?_); rintro en w4 ⟨a4, c4, rfl, hcw4, hgr4⟩; have HC4 := Lib.hid hcw4; have HG4 := Lib.hid hgr4; have HX4 := Lib.hid (hbx.out.grew (by simp) hgr4 HN.out.1 hofa); clear hcw4 hgr4))
        exact ⟨⟨2, a4, c4, by omega, rfl, by show Cw _ _ _ _ _ _; have h1 := HC4.out; simpa using h1, hgr.out.trans HG4.out, HX4.out⟩, by simp [intOf]⟩
      · have hnw := number_w D g gx 3 c3 a3 _ lease wr hcw.out hDr (hbx.out.cell (j := 3) rfl) HN.out.1 hofa (by simp [be8_length]; omega)
        have HNW := Lib.hid hnw
        clear hnw
        have hidx : ∀ w, (Instr.index 156 (.agg #[.pointer (some ⟨gx, 1, none⟩), .pointer (some ⟨gx, 2, none⟩), .pointer (some ⟨gx, 3, none⟩), .pointer (some ⟨gx, 4, none⟩)]) (.int .i64 2)).run Try.prog w = .ok (.pointer (some ⟨gx, 3, none⟩)) w := fun _ => by kernel_rfl
        go_wp2_with (go_at_call 79; ((with_reducible refine HNW.out.mono ?_); rintro en w4 ⟨a4, c4, rfl, hcw4, hgr4⟩; have HC4 := Lib.hid hcw4; have HG4 := Lib.hid hgr4; have HX4 := Lib.hid (hbx.out.grew (by simp) hgr4 HN.out.1 hofa); clear hcw4 hgr4))
        exact ⟨⟨3, a4, c4, by omega, rfl, by show Cw _ _ _ _ _ _; have h1 := HC4.out; simpa using h1, hgr.out.trans HG4.out, HX4.out⟩, by simp [intOf]⟩
      · have hnw := number_w D g gx 4 c3 a3 _ size wr hcw.out hDr (hbx.out.cell (j := 4) rfl) HN.out.1 hofa (by simp [be8_length]; omega)
        have HNW := Lib.hid hnw
        clear hnw
        have hidx : ∀ w, (Instr.index 156 (.agg #[.pointer (some ⟨gx, 1, none⟩), .pointer (some ⟨gx, 2, none⟩), .pointer (some ⟨gx, 3, none⟩), .pointer (some ⟨gx, 4, none⟩)]) (.int .i64 3)).run Try.prog w = .ok (.pointer (some ⟨gx, 4, none⟩)) w := fun _ => by kernel_rfl
        go_wp2_with (go_at_call 79; ((with_reducible refine HNW.out.mono ?_); rintro en w4 ⟨a4, c4, rfl, hcw4, hgr4⟩; have HC4 := Lib.hid hcw4; have HG4 := Lib.hid hgr4; have HX4 := Lib.hid (hbx.out.grew (by simp) hgr4 HN.out.1 hofa); clear hcw4 hgr4))
        exact ⟨⟨4, a4, c4, by omega, rfl, by show Cw _ _ _ _ _ _; have h1 := HC4.out; simpa using h1, hgr.out.trans HG4.out, HX4.out⟩, by simp [intOf]⟩
    · obtain rfl : k = 4 := by omega
      go_wp2
      go_end0
      refine ⟨⟨a3, c3, rfl, ?_, hgr.out⟩, hbx.out⟩
      have h1 := hcw.out
      simpa [encWAns] using h1
end Go.Proofs.Ytlckgnemmffdkaa
