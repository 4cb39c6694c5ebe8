/- An answer as bytes. -/
import Derived.Test.YtlckgnemmffdkaaWirAns
namespace Go.Proofs.Ytlckgnemmffdkaa
open Go.ChangeShapes Go.WideShapes Go.ChangeAt Go.RowKit
set_option maxRecDepth 100000

theorem Grew.bel {w W w' : World} {g : Nat} {a' : Option Addr} (h : Grew g none a' W w') (hb : Below w.heap.size w W) (hg : w.heap.size ≤ g) : Below w.heap.size w w' :=
  ⟨h.os.trans hb.os, h.tape.trans hb.tape, h.output.trans hb.output, Nat.le_trans hb.size h.size, fun k hk => by rw [h.keep k (Nat.lt_of_lt_of_le hk hb.size) (by omega) (fun o s e => by cases e)]; exact hb.block k hk⟩
/-- Bytes in a row, its capacity as great as it must be. -/
def RetBC (w : World) (l : List UInt8) (e : Ending) (w' : World) : Prop := ∃ a c, e = .returned (.slice a l.length c) ∧ RowB w' a l ∧ Below w.heap.size w w' ∧ l.length ≤ c
set_option maxHeartbeats 2000000 in
theorem written_answer (e rate burst lease size : Int) (w : World) :
    Calls Try.prog 64 #[.agg #[.int .i64 e, .int .i64 rate, .int .i64 burst, .int .i64 lease, .int .i64 size], .func (.func 59) #[] #[]] w (RetBC w (encWAns ⟨e, rate, burst, lease, size⟩)) := by
  obtain ⟨W, hW⟩ : ∃ W, W = (w.alloc (.cells #[.int .i64 e, .int .i64 rate, .int .i64 burst, .int .i64 lease, .int .i64 size] 42)).alloc (.cells #[.slice none 0 0, .int .i64 0, .bool false] 134) := ⟨_, rfl⟩
  have hbx : Box W w.heap.size [.int .i64 e, .int .i64 rate, .int .i64 burst, .int .i64 lease, .int .i64 size] := by rw [hW]; exact Box.of_alloc (mid_alloc' (Below.refl _ _))
  have hbc : Box W (w.heap.size + 1) [.slice none ([] : List UInt8).length 0, .int .i64 0, .bool false] := by rw [hW]; exact Box.of_alloc1 (Below.refl _ _)
  have hcw : Cw W (w.heap.size + 2) (w.heap.size + 1) none 0 [] := ⟨hbc, Can.nil _ _ _ _, (fun b o s h => by cases h), by omega, (fun b o s h => by cases h)⟩
  have hsz : w.heap.size + 2 ≤ W.heap.size := by rw [hW]; simp
  have hbW : Below w.heap.size w W := by rw [hW]; exact mid_alloc' (mid_alloc' (Below.refl _ _))
  have HA := Lib.hid (answer_w (w.heap.size + 2) (w.heap.size + 1) w.heap.size 0 none [] e rate burst lease size W hcw hsz hbx (by omega) (fun o s h => by cases h) (by simp))
  have HBW := Lib.hid hbW
  rw [hW] at HA
  go_enter Try.func64, Try.ntmps64
  go_wp2_with (go_at_call 59; ((with_reducible refine HA.out.mono ?_); rintro en w1 ⟨⟨a1, c1, rfl, hcw1, hgr1⟩, hx1⟩; have HC1 := Lib.hid hcw1; have HG1 := Lib.hid hgr1; have k0 := hcw1.box.cell (j := 0) rfl; clear hcw1 hgr1 hx1))
  go_ret
  refine ⟨a1, c1, rfl, HC1.out.can.row, ?_, HC1.out.can.le⟩
  have hg := HG1.out
  rw [← hW] at hg
  exact hg.bel HBW.out (by omega)
theorem answer_bytes (e rate burst lease size : Int) (w : World) :
    Calls Try.prog 26 #[.agg #[.int .i64 e, .int .i64 rate, .int .i64 burst, .int .i64 lease, .int .i64 size]] w (RetBC w (encWAns ⟨e, rate, burst, lease, size⟩)) := by
  have hba : Below w.heap.size w (w.alloc (.cells #[.int .i64 e, .int .i64 rate, .int .i64 burst, .int .i64 lease, .int .i64 size] 42)) := (Below.refl _ _).alloc (Nat.le_refl _) _
  have HB := Lib.hid hba
  go_enter Try.func26, Try.ntmps26
  go_wp2_with (go_at_call 64; ((with_reducible refine (written_answer e rate burst lease size _).mono ?_); rintro en w1 ⟨a1, c1, rfl, hr1, hb1, hc1⟩; have HLE := Lib.hid hc1; clear hc1; have HR1 := Lib.hid hr1; have HB1 := Lib.hid (HB.out.trans (hb1.mono HB.out.size)); clear hr1 hb1))
  go_ret
  exact ⟨a1, c1, rfl, HR1.out, HB1.out, HLE.out⟩
end Go.Proofs.Ytlckgnemmffdkaa
