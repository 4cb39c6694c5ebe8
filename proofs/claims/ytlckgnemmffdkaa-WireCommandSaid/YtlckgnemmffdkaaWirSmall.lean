/- A byte behind a writer's bytes. -/
import Derived.Test.YtlckgnemmffdkaaWirNum
namespace Go.Proofs.Ytlckgnemmffdkaa
open Go.ChangeShapes Go.WideShapes Go.ChangeAt Go.RowKit
set_option maxRecDepth 100000

set_option maxHeartbeats 2000000 in
theorem small_w (D g gx ox c : Nat) (a : Option Addr) (bs : List UInt8) (x : UInt8) (w : World) (h : Cw w D g a c bs) (hD : D ≤ w.heap.size) (hx : w.cell? ⟨gx, ox, none⟩ = some (B x)) (hgx : gx ≠ g) (hxa : ∀ o s, a ≠ some ⟨gx, o, s⟩) (hn : bs.length ≤ 10000000) :
    Calls Try.prog 81 #[.pointer (some ⟨g, 0, none⟩), .pointer (some ⟨gx, ox, none⟩)] w (RetCw w D g a (bs ++ [x])) := by
  have hcw := Lib.hid h
  have k0 := h.box.cell (j := 0) rfl
  have k2 := h.box.cell (j := 2) rfl
  have ea : g < w.heap.size := World.block_lt_of_cell? w _ k0
  have eb : gx < w.heap.size := World.block_lt_of_cell? w _ hx
  clear h hgx hxa
  go_enter Try.func81, Try.ntmps81
  go_upto_region 2 with (fail)
  go_region_law (first
    | (refine step_near el_bytes rfl (.tmp 18) (.tmp 22) rfl D a bs.length c (bs.map B) rfl (Can.drew (hcw.out.can.alloc _)) (some ⟨w.heap.size, 0, none⟩) 1 1 [B x] rfl rfl (Row.drew (Row.new _ _ _ _)) (by intro u hu; simp at hu; subst hu; rfl) (by omega) (by simp; omega) (by decide) ?_; intro a2 c2 w2 hcan2 hg2 hn2 hown2; have hst := Cw.step (ns := [x]) hcw.out (((Below.refl _ _).alloc (Nat.le_refl _) _).drew) hD hcan2 hg2 hn2 (own_block hown2) (own_lt hown2); have q0 := hst.1.cell (j := 0) rfl; have z0 := hst.1.froz (j := 0) (show 0 < 3 by decide); have HST := Lib.hid hst.2; clear hst hcan2 hg2 hn2 hown2))
  all_goals
    clear q0 z0
    go_wp2_with fail
    go_end0
    exact ⟨a2, c2, rfl, HST.out.1, HST.out.2⟩
/-- A kind: the byte that it is. -/
theorem kind_byte {k : Int} (h : -128 ≤ k ∧ k < 128) : IntKind.u8.wrap k = ((kindB k).toNat : Int) := by
  unfold kindB
  rw [UInt8.toNat_ofNat', IntKind.wrap_u8]
  omega
end Go.Proofs.Ytlckgnemmffdkaa
