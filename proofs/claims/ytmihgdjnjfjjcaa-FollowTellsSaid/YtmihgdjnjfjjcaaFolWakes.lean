import Derived.Test.YtmihgdjnjfjjcaaFolCommit
import Derived.Test.YtmihgdjnjfjjcaaFolTold
import Derived.Test.YtmihgdjnjfjjcaaFolBegin
set_option linter.unusedVariables false
set_option linter.unusedSimpArgs false
/- What the document says of matches, and of an older term (weirlaw11.wakes). -/
namespace Go.Proofs.Ytmihgdjnjfjjcaa
open Go.ChangeShapes Go.WideShapes Go.ChangeAt Go.RowKit
set_option maxRecDepth 100000

def wkE (t : Int) : RwE := (⟨t, 0, 0, 0, []⟩, (none, 0))
abbrev wkC (a b : Int) : Array Value := #[.int .i64 a, .int .i8 0, .int .i64 0, .int .u8 0, .slice none 0 0, .int .i64 b, .int .i8 0, .int .i64 0, .int .u8 0, .slice none 0 0]
theorem wk_commit (a b m : Int) (g g2 : Nat) (W : World) (r : Int × Int) (hr : Row W (some ⟨g, 0, none⟩) (wkC a b).toList) (hp : Row W (some ⟨g2, 0, none⟩) [.int .i64 2, .int .i64 2, .int .i64 0, .int .i64 3, .int .i64 m, .int .i64 0]) (h : commitF 0 0 [⟨a, 0, 0, 0, []⟩, ⟨b, 0, 0, 0, []⟩] 7 1 2 0 [⟨2, 2, 0⟩, ⟨3, m, 0⟩] = r) :
    Calls Try.prog 10 #[.agg #[.int .i64 0, .int .i64 0, .slice (some ⟨g, 0, none⟩) 2 2], .int .u8 7, .int .i64 1, .int .i64 2, .int .i64 0, .slice (some ⟨g2, 0, none⟩) 2 2] W (RetII W r) := by
  have hc := commit_any [wkE a, wkE b] 0 0 (some ⟨g, 0, none⟩) 2 2 7 1 2 0 [⟨2, 2, 0⟩, ⟨3, m, 0⟩] (some ⟨g2, 0, none⟩) 2 2 W rfl (by decide) hr rfl (by decide) hp (by unfold InI; decide)
  rw [show ents [wkE a, wkE b] = [⟨a, 0, 0, 0, []⟩, ⟨b, 0, 0, 0, []⟩] from rfl, show (7 : UInt8).toNat = 7 from rfl, h] at hc
  exact hc
theorem wk_begin (a b : Int) (g : Nat) (W : World) (r : List Prg) (hr : Row W (some ⟨g, 0, none⟩) (wkC a b).toList) (h : beginF 0 0 [⟨a, 0, 0, 0, []⟩, ⟨b, 0, 0, 0, []⟩] 7 1 = r) :
    Calls Try.prog 19 #[.agg #[.int .i64 0, .int .i64 0, .slice (some ⟨g, 0, none⟩) 2 2], .int .u8 7, .int .i64 1] W (RetRowP W r) := by
  have hc := begin_any [wkE a, wkE b] 0 0 (some ⟨g, 0, none⟩) 2 2 7 1 W rfl (by decide) hr
  rw [show ents [wkE a, wkE b] = [⟨a, 0, 0, 0, []⟩, ⟨b, 0, 0, 0, []⟩] from rfl, show (7 : UInt8).toNat = 7 from rfl, h] at hc
  exact hc
theorem wk_told (w : World) : Calls Try.prog 16 #[.agg #[.int .i64 2, .int .i64 0, .int .i64 5], .bool false, .int .i64 1] w (RetPrg w ⟨2, 0, 2⟩) := by
  have h := told_any ⟨2, 0, 5⟩ false 1 w
  rw [show toldF ⟨2, 0, 5⟩ false 1 = ⟨2, 0, 2⟩ by decide +kernel] at h
  exact h
theorem wk1 : commitF 0 0 [⟨1, 0, 0, 0, []⟩, ⟨2, 0, 0, 0, []⟩] 7 1 2 0 [⟨2, 2, 0⟩, ⟨3, 0, 0⟩] = (2, 0) := by decide +kernel
theorem wk2 : commitF 0 0 [⟨1, 0, 0, 0, []⟩, ⟨1, 0, 0, 0, []⟩] 7 1 2 0 [⟨2, 2, 0⟩, ⟨3, 2, 0⟩] = (0, 0) := by decide +kernel
theorem wk3 : beginF 0 0 [⟨1, 0, 0, 0, []⟩, ⟨2, 0, 0, 0, []⟩] 7 1 = [⟨2, 0, 3⟩, ⟨3, 0, 3⟩] := by decide +kernel
def RetTrue (w : World) (e : Ending) (w' : World) : Prop := e = .returned (.bool true) ∧ Below w.heap.size w w'
theorem wk_mem (w : World) (cs ps : Array Value) (o : Obj) (T P : TypeId) : Row (((w.alloc (.cells cs T)).alloc o).alloc (.cells ps P)) (some ⟨w.heap.size, 0, none⟩) cs.toList ∧ Row (((w.alloc (.cells cs T)).alloc o).alloc (.cells ps P)) (some ⟨w.heap.size + 1 + 1, 0, none⟩) ps.toList := by
  refine ⟨Row.below (Row.new _ _ _ _) (((Below.refl _ _).alloc (Nat.le_refl _) _).alloc (by simp) _), ?_⟩
  have h : Row (((w.alloc (.cells cs T)).alloc o).alloc (.cells ps P)) (some ⟨((w.alloc (.cells cs T)).alloc o).heap.size, 0, none⟩) ps.toList := Row.new _ _ _ _
  rw [World.size_alloc, World.size_alloc] at h
  exact h
theorem wk_box (w : World) (o o2 : Obj) (cs : List Value) (T : TypeId) : Box (((w.alloc o).alloc (.cells cs.toArray T)).alloc o2) (w.heap.size + 1) cs := Box.of_alloc1 ((Below.refl _ _).alloc (Nat.le_refl _) _)
theorem wk_below (w : World) (o o2 o3 : Obj) : Below w.heap.size w (((w.alloc o).alloc o2).alloc o3) := mid_alloc' (mid_alloc' (mid_alloc' (Below.refl _ _)))
set_option maxHeartbeats 8000000 in
theorem wakes_any (w : World) : Calls Try.prog 9 #[] w (RetTrue w) := by
  go_enter Try.func9, Try.ntmps9
  go_wp2_with (first
    | (have hgq := HB5; clear hgq; go_at_call 19; ((with_reducible refine (wk_begin 1 2 w.heap.size _ _ HR5.out wk3).mono ?_); rintro e w6 ⟨a6, c6, rfl, -, hb, -⟩; have HB6 := Lib.hid (HB5.out.trans (hb.mono HB5.out.size)); clear hb))
    | (have hgq := HB4; clear hgq; go_at_call 16; ((with_reducible refine (wk_told _).mono ?_); rintro e w5 ⟨rfl, hb⟩; have hba : Below w5.heap.size w5 (w5.alloc (.cells #[.int .i64 2, .int .i64 0, .int .i64 2] 39)) := mid_alloc' (Below.refl _ _); have hbk := HB4.out.trans (hb.mono HB4.out.size); have HB5 := Lib.hid (hbk.trans (hba.mono hbk.size)); have HX5 := Lib.hid ((HX4.out.next (by simp) hb).next (by simp) hba); have HR5 := Lib.hid ((HR4.out.below hb).below hba); have k0 := HX5.out.cell (j := 0) rfl; have k1 := HX5.out.cell (j := 1) rfl; have k2 := HX5.out.cell (j := 2) rfl; clear hb hba hbk))
    | (have hgq := HB2; clear hgq; go_at_call 10; ((with_reducible refine (wk_commit 1 1 2 w2.heap.size (w2.heap.size + 1 + 1) _ _ (wk_mem w2 (wkC 1 1) #[.int .i64 2, .int .i64 2, .int .i64 0, .int .i64 3, .int .i64 2, .int .i64 0] _ _ _).1 (wk_mem w2 (wkC 1 1) #[.int .i64 2, .int .i64 2, .int .i64 0, .int .i64 3, .int .i64 2, .int .i64 0] _ _ _).2 wk2).mono ?_); rintro e w4 ⟨rfl, hb⟩; have hbz := wk_below w2 (.cells (wkC 1 1) 58) (.cells #[.int .i64 0, .int .i64 0, .slice (some ⟨w2.heap.size, 0, none⟩) 2 2] 24) (.cells #[.int .i64 2, .int .i64 2, .int .i64 0, .int .i64 3, .int .i64 2, .int .i64 0] 39); have hbk := hbz.trans (hb.mono hbz.size); have HB4 := Lib.hid (HB2.out.trans (hbk.mono HB2.out.size)); have HX4 := Lib.hid (HX2.out.next (by simp) hbk); have HR4 := Lib.hid (HR2.out.below hbk); clear hb hbz hbk))
    | (go_at_call 10; ((with_reducible refine (wk_commit 1 2 0 w.heap.size (w.heap.size + 1 + 1) _ _ (wk_mem w (wkC 1 2) #[.int .i64 2, .int .i64 2, .int .i64 0, .int .i64 3, .int .i64 0, .int .i64 0] _ _ _).1 (wk_mem w (wkC 1 2) #[.int .i64 2, .int .i64 2, .int .i64 0, .int .i64 3, .int .i64 0, .int .i64 0] _ _ _).2 wk1).mono ?_); rintro e w2 ⟨rfl, hb⟩; have hbz := wk_below w (.cells (wkC 1 2) 58) (.cells #[.int .i64 0, .int .i64 0, .slice (some ⟨w.heap.size, 0, none⟩) 2 2] 24) (.cells #[.int .i64 2, .int .i64 2, .int .i64 0, .int .i64 3, .int .i64 0, .int .i64 0] 39); have HB2 := Lib.hid (hbz.trans (hb.mono hbz.size)); have HX2 := Lib.hid ((wk_box w (.cells (wkC 1 2) 58) (.cells #[.int .i64 2, .int .i64 2, .int .i64 0, .int .i64 3, .int .i64 0, .int .i64 0] 39) [.int .i64 0, .int .i64 0, .slice (some ⟨w.heap.size, 0, none⟩) 2 2] 24).next (by simp) hb); have HR2 := Lib.hid ((wk_mem w (wkC 1 2) #[.int .i64 2, .int .i64 2, .int .i64 0, .int .i64 3, .int .i64 0, .int .i64 0] (.cells #[.int .i64 0, .int .i64 0, .slice (some ⟨w.heap.size, 0, none⟩) 2 2] 24) 58 39).1.below hb); clear hb hbz)))
  go_returns
  exact ⟨rfl, HB6.out⟩
end Go.Proofs.Ytmihgdjnjfjjcaa
