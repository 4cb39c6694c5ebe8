import Derived.Test.YtlckgnemmffdkaaWirRefE
import Derived.Test.YtlckgnemmffdkaaWirCmd
set_option linter.unusedVariables false
set_option linter.unusedSimpArgs false
/- The document's Command. (printed by gen_wirrefwc.py) -/
namespace Go.Proofs.Ytlckgnemmffdkaa
open Go.ChangeShapes Go.WideShapes Go.ChangeAt Go.RowKit
set_option maxRecDepth 100000

set_option maxHeartbeats 16000000 in
theorem refcommand_bytes (x : WCmd) (p : PCmd) (w : World) (hs : LowCmd w.heap.size w x p) (hok : OkCmd x) :
    Calls Try.prog 25 #[valCmd x p] w (RetB w (encWCmd x)) := by
  have HKB := Lib.hid (show B (kindB x.kind) = .int .u8 (x.kind % 256) by rw [B, ← kind_byte hok.kind, IntKind.wrap_u8])
  have HL8 := Lib.hid (show (x.leases.flatMap be8).length = x.leases.length * 8 ∧ x.leases.length ≤ 125000 by have h1 := hok.size; have h2 := flatMap_len8 x.leases; unfold encWCmd at h1; simp only [List.length_append] at h1; omega)
  have hr := hs.row
  obtain ⟨kind, client, number, tenant, rate, burst, shaper, epoch, lease, size, spent, closed, leases⟩ := x
  obtain ⟨p0, p1⟩ := p
  simp only at HKB HL8 hr
  unfold valCmd
  simp only
  have hb1 : Below w.heap.size w (w.alloc (.cells #[.int .i8 kind, .int .i64 client, .int .i64 number, .int .i64 tenant, .int .i64 rate, .int .i64 burst, .int .i64 shaper, .int .i64 epoch, .int .i64 lease, .int .i64 size, .int .i64 spent, .bool closed, .slice p0 leases.length p1] 40)) := mid_alloc' (Below.refl _ _)
  have hb2 : Below (w.alloc (.cells #[.int .i8 kind, .int .i64 client, .int .i64 number, .int .i64 tenant, .int .i64 rate, .int .i64 burst, .int .i64 shaper, .int .i64 epoch, .int .i64 lease, .int .i64 size, .int .i64 spent, .bool closed, .slice p0 leases.length p1] 40)).heap.size (w.alloc (.cells #[.int .i8 kind, .int .i64 client, .int .i64 number, .int .i64 tenant, .int .i64 rate, .int .i64 burst, .int .i64 shaper, .int .i64 epoch, .int .i64 lease, .int .i64 size, .int .i64 spent, .bool closed, .slice p0 leases.length p1] 40)) ((w.alloc (.cells #[.int .i8 kind, .int .i64 client, .int .i64 number, .int .i64 tenant, .int .i64 rate, .int .i64 burst, .int .i64 shaper, .int .i64 epoch, .int .i64 lease, .int .i64 size, .int .i64 spent, .bool closed, .slice p0 leases.length p1] 40)).alloc (.cells #[.int .u8 (kind % 256)] 5)) := mid_alloc' (Below.refl _ _)
  have HX := Lib.hid ((Box.of_alloc (w := w) (cs := [.int .i8 kind, .int .i64 client, .int .i64 number, .int .i64 tenant, .int .i64 rate, .int .i64 burst, .int .i64 shaper, .int .i64 epoch, .int .i64 lease, .int .i64 size, .int .i64 spent, .bool closed, .slice p0 leases.length p1]) (t := 40) (Below.refl _ _)).next (by simp) hb2)
  have HB : Hid (Cb ((w.alloc (.cells #[.int .i8 kind, .int .i64 client, .int .i64 number, .int .i64 tenant, .int .i64 rate, .int .i64 burst, .int .i64 shaper, .int .i64 epoch, .int .i64 lease, .int .i64 size, .int .i64 spent, .bool closed, .slice p0 leases.length p1] 40)).alloc (.cells #[.int .u8 (kind % 256)] 5)) w.heap.size (some ⟨(w.alloc (.cells #[.int .i8 kind, .int .i64 client, .int .i64 number, .int .i64 tenant, .int .i64 rate, .int .i64 burst, .int .i64 shaper, .int .i64 epoch, .int .i64 lease, .int .i64 size, .int .i64 spent, .bool closed, .slice p0 leases.length p1] 40)).heap.size, 0, none⟩) 1 [kindB kind]) := Lib.hid ⟨Can.full (n := 1) (by show Row _ _ [B (kindB kind)]; rw [HKB.out]; exact Row.new _ _ _ _) rfl (by decide), fun b o s e => by simp only [Option.some.injEq, Addr.mk.injEq] at e; obtain ⟨rfl, -⟩ := e; simp⟩
  rw [World.size_alloc] at HB
  have HO := Lib.hid (And.intro (show w.heap.size < ((w.alloc (.cells #[.int .i8 kind, .int .i64 client, .int .i64 number, .int .i64 tenant, .int .i64 rate, .int .i64 burst, .int .i64 shaper, .int .i64 epoch, .int .i64 lease, .int .i64 size, .int .i64 spent, .bool closed, .slice p0 leases.length p1] 40)).alloc (.cells #[.int .u8 (kind % 256)] 5)).heap.size by simp; omega) (show ∀ o s, (some ⟨w.heap.size + 1, 0, none⟩ : Option Addr) ≠ some ⟨w.heap.size, o, s⟩ from fun o s e => by simp only [Option.some.injEq, Addr.mk.injEq] at e; omega))
  have HG := Lib.hid (Gro.refl (some ⟨w.heap.size + 1, 0, none⟩) ((w.alloc (.cells #[.int .i8 kind, .int .i64 client, .int .i64 number, .int .i64 tenant, .int .i64 rate, .int .i64 burst, .int .i64 shaper, .int .i64 epoch, .int .i64 lease, .int .i64 size, .int .i64 spent, .bool closed, .slice p0 leases.length p1] 40)).alloc (.cells #[.int .u8 (kind % 256)] 5)))
  have HR := Lib.hid ((hr.below hb1).below hb2)
  have HBW := Lib.hid (hb1.trans (hb2.mono hb1.size))
  have hD : w.heap.size ≤ ((w.alloc (.cells #[.int .i8 kind, .int .i64 client, .int .i64 number, .int .i64 tenant, .int .i64 rate, .int .i64 burst, .int .i64 shaper, .int .i64 epoch, .int .i64 lease, .int .i64 size, .int .i64 spent, .bool closed, .slice p0 leases.length p1] 40)).alloc (.cells #[.int .u8 (kind % 256)] 5)).heap.size := by simp; omega
  have HN1 : Hid (Calls Try.prog 62 #[.slice (some ⟨w.heap.size + 1, 0, none⟩) 1 1, .int .i64 client] ((w.alloc (.cells #[.int .i8 kind, .int .i64 client, .int .i64 number, .int .i64 tenant, .int .i64 rate, .int .i64 burst, .int .i64 shaper, .int .i64 epoch, .int .i64 lease, .int .i64 size, .int .i64 spent, .bool closed, .slice p0 leases.length p1] 40)).alloc (.cells #[.int .u8 (kind % 256)] 5)) (RetCbL ((w.alloc (.cells #[.int .i8 kind, .int .i64 client, .int .i64 number, .int .i64 tenant, .int .i64 rate, .int .i64 burst, .int .i64 shaper, .int .i64 epoch, .int .i64 lease, .int .i64 size, .int .i64 spent, .bool closed, .slice p0 leases.length p1] 40)).alloc (.cells #[.int .u8 (kind % 256)] 5)) w.heap.size (some ⟨w.heap.size + 1, 0, none⟩) [kindB kind] (be8 client) 8)) := number_rl w.heap.size 1 _ [kindB kind] client ((w.alloc (.cells #[.int .i8 kind, .int .i64 client, .int .i64 number, .int .i64 tenant, .int .i64 rate, .int .i64 burst, .int .i64 shaper, .int .i64 epoch, .int .i64 lease, .int .i64 size, .int .i64 spent, .bool closed, .slice p0 leases.length p1] 40)).alloc (.cells #[.int .u8 (kind % 256)] 5)) HB.out hD (by simp)
  clear hs hok hr hb1 hb2
  have y0 := HX.out.cell (j := 0) rfl
  have y1 := HX.out.cell (j := 1) rfl
  have y2 := HX.out.cell (j := 2) rfl
  have y3 := HX.out.cell (j := 3) rfl
  have y4 := HX.out.cell (j := 4) rfl
  have y5 := HX.out.cell (j := 5) rfl
  have y6 := HX.out.cell (j := 6) rfl
  have y7 := HX.out.cell (j := 7) rfl
  have y8 := HX.out.cell (j := 8) rfl
  have y9 := HX.out.cell (j := 9) rfl
  have y10 := HX.out.cell (j := 10) rfl
  have y11 := HX.out.cell (j := 11) rfl
  have y12 := HX.out.cell (j := 12) rfl
  go_enter Try.func25, Try.ntmps25
  go_wp2_with (first
    | (have hgq := HN1; clear hgq; (go_at_call 62; ((with_reducible refine HN1.out.mono ?_); rintro en w1 ⟨l, a1, c1, rfl, hl, hlen, hb1, hg1⟩; have HLL := Lib.hid hl; rw [List.length_singleton] at hlen; clear hl HN1; clear y0 y1 y2 y3 y4 y5 y6 y7 y8 y9 y10 y11 y12; replace HX := Lib.hid (HX.out.gro (by simp) hg1 (HG.out.off HO.out.1 HO.out.2)); replace HR := Lib.hid (HR.out.gro HB.out hg1); replace HG := Lib.hid (HG.out.trans hg1); replace HB := Lib.hid hb1; clear hb1 hg1; have y0 := HX.out.cell (j := 0) rfl; have y1 := HX.out.cell (j := 1) rfl; have y2 := HX.out.cell (j := 2) rfl; have y3 := HX.out.cell (j := 3) rfl; have y4 := HX.out.cell (j := 4) rfl; have y5 := HX.out.cell (j := 5) rfl; have y6 := HX.out.cell (j := 6) rfl; have y7 := HX.out.cell (j := 7) rfl; have y8 := HX.out.cell (j := 8) rfl; have y9 := HX.out.cell (j := 9) rfl; have y10 := HX.out.cell (j := 10) rfl; have y11 := HX.out.cell (j := 11) rfl; have y12 := HX.out.cell (j := 12) rfl)))
    | (go_at_call 62; ((with_reducible refine (number_rl w.heap.size _ _ _ _ _ HB.out (Nat.le_trans hD HG.out.size) (by omega)).mono ?_); rintro en w1 ⟨l, a1, c1, rfl, hl, hlen, hb1, hg1⟩; replace HLL := Lib.hid (hl.trans (congrArg (· ++ _) HLL.out)); clear hl; clear y0 y1 y2 y3 y4 y5 y6 y7 y8 y9 y10 y11 y12; replace HX := Lib.hid (HX.out.gro (by simp) hg1 (HG.out.off HO.out.1 HO.out.2)); replace HR := Lib.hid (HR.out.gro HB.out hg1); replace HG := Lib.hid (HG.out.trans hg1); replace HB := Lib.hid hb1; clear hb1 hg1; have y0 := HX.out.cell (j := 0) rfl; have y1 := HX.out.cell (j := 1) rfl; have y2 := HX.out.cell (j := 2) rfl; have y3 := HX.out.cell (j := 3) rfl; have y4 := HX.out.cell (j := 4) rfl; have y5 := HX.out.cell (j := 5) rfl; have y6 := HX.out.cell (j := 6) rfl; have y7 := HX.out.cell (j := 7) rfl; have y8 := HX.out.cell (j := 8) rfl; have y9 := HX.out.cell (j := 9) rfl; have y10 := HX.out.cell (j := 10) rfl; have y11 := HX.out.cell (j := 11) rfl; have y12 := HX.out.cell (j := 12) rfl))
    | (go_at_call 63; ((with_reducible refine (truth_rl w.heap.size _ _ _ _ _ HB.out (Nat.le_trans hD HG.out.size) (by omega)).mono ?_); rintro en w1 ⟨l, a1, c1, rfl, hl, hlen, hb1, hg1⟩; replace HLL := Lib.hid (hl.trans (congrArg (· ++ _) HLL.out)); clear hl; clear y0 y1 y2 y3 y4 y5 y6 y7 y8 y9 y10 y11 y12; replace HX := Lib.hid (HX.out.gro (by simp) hg1 (HG.out.off HO.out.1 HO.out.2)); replace HR := Lib.hid (HR.out.gro HB.out hg1); replace HG := Lib.hid (HG.out.trans hg1); replace HB := Lib.hid hb1; clear hb1 hg1; have y0 := HX.out.cell (j := 0) rfl; have y1 := HX.out.cell (j := 1) rfl; have y2 := HX.out.cell (j := 2) rfl; have y3 := HX.out.cell (j := 3) rfl; have y4 := HX.out.cell (j := 4) rfl; have y5 := HX.out.cell (j := 5) rfl; have y6 := HX.out.cell (j := 6) rfl; have y7 := HX.out.cell (j := 7) rfl; have y8 := HX.out.cell (j := 8) rfl; have y9 := HX.out.cell (j := 9) rfl; have y10 := HX.out.cell (j := 10) rfl; have y11 := HX.out.cell (j := 11) rfl; have y12 := HX.out.cell (j := 12) rfl)))
  have hll1 : l.length ≤ 100 := by omega
  have hHL := HL8.out.2
  clear y0 y1 y2 y3 y4 y5 y6 y7 y8 y9 y10 y11 y12
  go_loopw [3, 4] (fun sl i wr => ∃ (k : Nat) (l2 : List UInt8) (a2 : Option Addr) (c2 : Nat), k ≤ leases.length ∧ i = .int .i64 k ∧ sl = .slice a2 l2.length c2 ∧ Hid (l2 = l ++ (leases.take k).flatMap be8) ∧ Hid (Cb wr w.heap.size a2 c2 l2) ∧ Hid (Gro (some ⟨w.heap.size + 1, 0, none⟩) a2 ((w.alloc (.cells #[.int .i8 kind, .int .i64 client, .int .i64 number, .int .i64 tenant, .int .i64 rate, .int .i64 burst, .int .i64 shaper, .int .i64 epoch, .int .i64 lease, .int .i64 size, .int .i64 spent, .bool closed, .slice p0 leases.length p1] 40)).alloc (.cells #[.int .u8 (kind % 256)] 5)) wr) ∧ Hid (Box wr w.heap.size [.int .i8 kind, .int .i64 client, .int .i64 number, .int .i64 tenant, .int .i64 rate, .int .i64 burst, .int .i64 shaper, .int .i64 epoch, .int .i64 lease, .int .i64 size, .int .i64 spent, .bool closed, .slice p0 leases.length p1]) ∧ Hid (LowRow w.heap.size wr p0 (leases.flatMap cellsInt))) (fun _ i _ => leases.length - (intOf i).toNat)
  case atStart => exact ⟨0, l, a1, c1, by omega, rfl, rfl, by (show _ = _); simp, HB.out, HG.out, HX.out, HR.out⟩
  case round =>
    obtain ⟨k, l2, a2, c2, hk, rfl, rfl, hl2, hcb, hgr, hbx, hlr⟩ := hrel
    have y12 := hbx.out.cell (j := 12) rfl
    have hl2b : l2.length ≤ 1000100 := by
      have h1 := flatMap_len8 (leases.take k)
      rw [List.length_take] at h1
      rw [hl2.out, List.length_append, h1]; omega
    by_cases hlt : k < leases.length
    · obtain ⟨b, o, hp0, hcell⟩ := Row.at hlr.out.row (k := k) (by rw [flatMap_len (fun _ => rfl : ∀ x, (cellsInt x).length = 1), Nat.mul_one]; exact hlt)
      have hce : wr.cell? ⟨b, o + k, none⟩ = some (.int .i64 (leases[k]'hlt)) := by
        have h1 := flatMap_at (cells := cellsInt) (size := 1) (fun _ => rfl) (xs := leases) (i := k) (r := 0) (by decide)
        rw [List.getElem?_eq_getElem hlt, Option.bind_some, Nat.mul_one, Nat.add_zero] at h1
        have h2 : k < (leases.flatMap cellsInt).length := by rw [flatMap_len (fun _ => rfl : ∀ x, (cellsInt x).length = 1), Nat.mul_one]; exact hlt
        have h3 := hcell k h2
        rw [h3, ← List.getElem?_eq_getElem h2, h1]; rfl
      have HT := Lib.hid (show l ++ (leases.take (k + 1)).flatMap be8 = l2 ++ be8 (leases[k]'hlt) by rw [hl2.out, List.take_succ_eq_append_getElem hlt, List.flatMap_append, List.flatMap_singleton, List.append_assoc])
      generalize leases[k]'hlt = x at hce HT
      have HPZ := Lib.hid hp0
      have hy12 := y12
      rw [hp0] at hy12
      have HNU := Lib.hid (number_rl w.heap.size c2 a2 l2 x wr hcb.out (Nat.le_trans hD hgr.out.size) (by omega))
      have hd : decide (k < leases.length) = true := decide_eq_true hlt
      clear hcell hp0 y12
      go_wp2_with (go_at_call 62; ((with_reducible refine HNU.out.mono ?_); rintro en w4 ⟨l3, a3, c3, rfl, hl3, hlen3, hb3, hg3⟩; have HL3 := Lib.hid hl3; have HB3 := Lib.hid hb3; have HG3 := Lib.hid hg3; have HX3 := Lib.hid (hbx.out.gro (by simp) hg3 (hgr.out.off HO.out.1 HO.out.2)); have HR3 := Lib.hid (hlr.out.gro hcb.out hg3); clear hl3 hb3 hg3))
      exact ⟨⟨k + 1, l3, a3, c3, by omega, by go_num, rfl, by (show _ = _); rw [HT.out, HL3.out], HB3.out, hgr.out.trans HG3.out, HX3.out, HR3.out⟩, by simp [intOf]; omega⟩
    · obtain rfl : k = leases.length := by omega
      have hd : decide (leases.length < leases.length) = false := decide_eq_false (by omega)
      go_wp2
      go_ret
      have he : l2 = encWCmd ⟨kind, client, number, tenant, rate, burst, shaper, epoch, lease, size, spent, closed, leases⟩ := by
        rw [hl2.out, HLL.out, List.take_of_length_le (Nat.le_refl _)]
        unfold encWCmd
        simp only [List.append_assoc]
      refine ⟨a2, c2, ?_, ?_, ?_⟩
      · rw [← he]; rfl
      · rw [← he]; exact hcb.out.can.row
      · have hg := hgr.out
        exact ⟨hg.os.trans HBW.out.os, hg.tape.trans HBW.out.tape, hg.output.trans HBW.out.output, Nat.le_trans HBW.out.size hg.size, fun k hk => by rw [hg.keep k (by have := HBW.out.size; omega) (fun o s e => by simp only [Option.some.injEq, Addr.mk.injEq] at e; omega)]; exact HBW.out.block k hk⟩
end Go.Proofs.Ytlckgnemmffdkaa
