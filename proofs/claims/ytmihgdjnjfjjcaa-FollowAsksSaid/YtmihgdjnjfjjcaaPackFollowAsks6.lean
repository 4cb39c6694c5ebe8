import Derived.Test.YtmihgdjnjfjjcaaFolCommit
import Derived.Test.YtmihgdjnjfjjcaaFolTold
import Derived.Test.YtmihgdjnjfjjcaaFolBegin
import Derived.Test.YtmihgdjnjfjjcaaPackFollowAsks3
import Derived.Test.YtmihgdjnjfjjcaaPackFollowAsks1
set_option linter.unusedVariables false
set_option linter.unusedSimpArgs false
/- What the document says of matches, and of an older term (weirlaw11.wakes). -/
namespace Go.Proofs.Ytmihgdjnjfjjcaa
open Go.ChangeShapes Go.WideShapes Go.ChangeAt Go.RowKit
set_option maxRecDepth 100000

def wkE (t : Int) : RwE := (⟨t, 0, 0, 0, []⟩, (none, 0))
abbrev wkC (a b : Int) : Array Value := #[.int .i64 a, .int .i8 0, .int .i64 0, .int .u8 0, .slice none 0 0, .int .i64 b, .int .i8 0, .int .i64 0, .int .u8 0, .slice none 0 0]
theorem wk_commit (a b m : Int) (g g2 : Nat) (W : World) (r : Int × Int) (hr : Row W (some ⟨g, 0, none⟩) (wkC a b).toList) (hp : Row W (some ⟨g2, 0, none⟩) [.int .i64 2, .int .i64 2, .int .i64 0, .int .i64 3, .int .i64 m, .int .i64 0]) (h : commitF 0 0 [⟨a, 0, 0, 0, []⟩, ⟨b, 0, 0, 0, []⟩] 7 1 2 0 [⟨2, 2, 0⟩, ⟨3, m, 0⟩] = r) :
    Calls Try.prog 10 #[.agg #[.int .i64 0, .int .i64 0, .slice (some ⟨g, 0, none⟩) 2 2], .int .u8 7, .int .i64 1, .int .i64 2, .int .i64 0, .slice (some ⟨g2, 0, none⟩) 2 2] W (RetII W r) := by
  have hc := commit_any [wkE a, wkE b] 0 0 (some ⟨g, 0, none⟩) 2 2 7 1 2 0 [⟨2, 2, 0⟩, ⟨3, m, 0⟩] (some ⟨g2, 0, none⟩) 2 2 W rfl (by decide) hr rfl (by decide) hp (by unfold InI; decide)
  rw [show ents [wkE a, wkE b] = [⟨a, 0, 0, 0, []⟩, ⟨b, 0, 0, 0, []⟩] from rfl, show (7 : UInt8).toNat = 7 from rfl, h] at hc
  exact hc
theorem wk_begin (a b : Int) (g : Nat) (W : World) (r : List Prg) (hr : Row W (some ⟨g, 0, none⟩) (wkC a b).toList) (h : beginF 0 0 [⟨a, 0, 0, 0, []⟩, ⟨b, 0, 0, 0, []⟩] 7 1 = r) :
    Calls Try.prog 19 #[.agg #[.int .i64 0, .int .i64 0, .slice (some ⟨g, 0, none⟩) 2 2], .int .u8 7, .int .i64 1] W (RetRowP W r) := by
  have hc := begin_any [wkE a, wkE b] 0 0 (some ⟨g, 0, none⟩) 2 2 7 1 W rfl (by decide) hr
  rw [show ents [wkE a, wkE b] = [⟨a, 0, 0, 0, []⟩, ⟨b, 0, 0, 0, []⟩] from rfl, show (7 : UInt8).toNat = 7 from rfl, h] at hc
  exact hc
theorem wk_told (w : World) : Calls Try.prog 16 #[.agg #[.int .i64 2, .int .i64 0, .int .i64 5], .bool false, .int .i64 1] w (RetPrg w ⟨2, 0, 2⟩) := by
  have h := told_any ⟨2, 0, 5⟩ false 1 w
  rw [show toldF ⟨2, 0, 5⟩ false 1 = ⟨2, 0, 2⟩ by decide +kernel] at h
  exact h
theorem wk1 : commitF 0 0 [⟨1, 0, 0, 0, []⟩, ⟨2, 0, 0, 0, []⟩] 7 1 2 0 [⟨2, 2, 0⟩, ⟨3, 0, 0⟩] = (2, 0) := by decide +kernel
theorem wk2 : commitF 0 0 [⟨1, 0, 0, 0, []⟩, ⟨1, 0, 0, 0, []⟩] 7 1 2 0 [⟨2, 2, 0⟩, ⟨3, 2, 0⟩] = (0, 0) := by decide +kernel
theorem wk3 : beginF 0 0 [⟨1, 0, 0, 0, []⟩, ⟨2, 0, 0, 0, []⟩] 7 1 = [⟨2, 0, 3⟩, ⟨3, 0, 3⟩] := by decide +kernel
def RetTrue (w : World) (e : Ending) (w' : World) : Prop := e = .returned (.bool true) ∧ Below w.heap.size w w'
theorem wk_mem (w : World) (cs ps : Array Value) (o : Obj) (T P : TypeId) : Row (((w.alloc (.cells cs T)).alloc o).alloc (.cells ps P)) (some ⟨w.heap.size, 0, none⟩) cs.toList ∧ Row (((w.alloc (.cells cs T)).alloc o).alloc (.cells ps P)) (some ⟨w.heap.size + 1 + 1, 0, none⟩) ps.toList := by
  refine ⟨Row.below (Row.new _ _ _ _) (((Below.refl _ _).alloc (Nat.le_refl _) _).alloc (by simp) _), ?_⟩
  have h : Row (((w.alloc (.cells cs T)).alloc o).alloc (.cells ps P)) (some ⟨((w.alloc (.cells cs T)).alloc o).heap.size, 0, none⟩) ps.toList := Row.new _ _ _ _
  rw [World.size_alloc, World.size_alloc] at h
  exact h
theorem wk_box (w : World) (o o2 : Obj) (cs : List Value) (T : TypeId) : Box (((w.alloc o).alloc (.cells cs.toArray T)).alloc o2) (w.heap.size + 1) cs := Box.of_alloc1 ((Below.refl _ _).alloc (Nat.le_refl _) _)
theorem wk_below (w : World) (o o2 o3 : Obj) : Below w.heap.size w (((w.alloc o).alloc o2).alloc o3) := mid_alloc' (mid_alloc' (mid_alloc' (Below.refl _ _)))
set_option maxHeartbeats 8000000 in
theorem wakes_any (w : World) : Calls Try.prog 9 #[] w (RetTrue w) := by
  go_enter Try.func9, Try.ntmps9
  go_wp2_with (first
    | (have hgq := HB5; clear hgq; go_at_call 19; ((with_reducible refine (wk_begin 1 2 w.heap.size _ _ HR5.out wk3).mono ?_); rintro e w6 ⟨a6, c6, rfl, -, hb, -⟩; have HB6 := Lib.hid (HB5.out.trans (hb.mono HB5.out.size)); clear hb))
    | (have hgq := HB4; clear hgq; go_at_call 16; ((with_reducible refine (wk_told _).mono ?_); rintro e w5 ⟨rfl, hb⟩; have hba : Below w5.heap.size w5 (w5.alloc (.cells #[.int .i64 2, .int .i64 0, .int .i64 2] 39)) := mid_alloc' (Below.refl _ _); have hbk := HB4.out.trans (hb.mono HB4.out.size); have HB5 := Lib.hid (hbk.trans (hba.mono hbk.size)); have HX5 := Lib.hid ((HX4.out.next (by simp) hb).next (by simp) hba); have HR5 := Lib.hid ((HR4.out.below hb).below hba); have k0 := HX5.out.cell (j := 0) rfl; have k1 := HX5.out.cell (j := 1) rfl; have k2 := HX5.out.cell (j := 2) rfl; clear hb hba hbk))
    | (have hgq := HB2; clear hgq; go_at_call 10; ((with_reducible refine (wk_commit 1 1 2 w2.heap.size (w2.heap.size + 1 + 1) _ _ (wk_mem w2 (wkC 1 1) #[.int .i64 2, .int .i64 2, .int .i64 0, .int .i64 3, .int .i64 2, .int .i64 0] _ _ _).1 (wk_mem w2 (wkC 1 1) #[.int .i64 2, .int .i64 2, .int .i64 0, .int .i64 3, .int .i64 2, .int .i64 0] _ _ _).2 wk2).mono ?_); rintro e w4 ⟨rfl, hb⟩; have hbz := wk_below w2 (.cells (wkC 1 1) 58) (.cells #[.int .i64 0, .int .i64 0, .slice (some ⟨w2.heap.size, 0, none⟩) 2 2] 24) (.cells #[.int .i64 2, .int .i64 2, .int .i64 0, .int .i64 3, .int .i64 2, .int .i64 0] 39); have hbk := hbz.trans (hb.mono hbz.size); have HB4 := Lib.hid (HB2.out.trans (hbk.mono HB2.out.size)); have HX4 := Lib.hid (HX2.out.next (by simp) hbk); have HR4 := Lib.hid (HR2.out.below hbk); clear hb hbz hbk))
    | (go_at_call 10; ((with_reducible refine (wk_commit 1 2 0 w.heap.size (w.heap.size + 1 + 1) _ _ (wk_mem w (wkC 1 2) #[.int .i64 2, .int .i64 2, .int .i64 0, .int .i64 3, .int .i64 0, .int .i64 0] _ _ _).1 (wk_mem w (wkC 1 2) #[.int .i64 2, .int .i64 2, .int .i64 0, .int .i64 3, .int .i64 0, .int .i64 0] _ _ _).2 wk1).mono ?_); rintro e w2 ⟨rfl, hb⟩; have hbz := wk_below w (.cells (wkC 1 2) 58) (.cells #[.int .i64 0, .int .i64 0, .slice (some ⟨w.heap.size, 0, none⟩) 2 2] 24) (.cells #[.int .i64 2, .int .i64 2, .int .i64 0, .int .i64 3, .int .i64 0, .int .i64 0] 39); have HB2 := Lib.hid (hbz.trans (hb.mono hbz.size)); have HX2 := Lib.hid ((wk_box w (.cells (wkC 1 2) 58) (.cells #[.int .i64 2, .int .i64 2, .int .i64 0, .int .i64 3, .int .i64 0, .int .i64 0] 39) [.int .i64 0, .int .i64 0, .slice (some ⟨w.heap.size, 0, none⟩) 2 2] 24).next (by simp) hb); have HR2 := Lib.hid ((wk_mem w (wkC 1 2) #[.int .i64 2, .int .i64 2, .int .i64 0, .int .i64 3, .int .i64 0, .int .i64 0] (.cells #[.int .i64 0, .int .i64 0, .slice (some ⟨w.heap.size, 0, none⟩) 2 2] 24) 58 39).1.below hb); clear hb hbz)))
  go_returns
  exact ⟨rfl, HB6.out⟩
end Go.Proofs.Ytmihgdjnjfjjcaa

/- Are rows more than the statements go through (weirlaw09.Great). -/
namespace Go.Proofs.Ytmihgdjnjfjjcaa
open Go.ChangeShapes Go.WideShapes Go.ChangeAt Go.RowKit
set_option maxRecDepth 100000

def sumD : List RwE → Nat
  | [] => 0
  | y :: es => y.1.data.length + sumD es
theorem sumD_take {es : List RwE} {k : Nat} (hk : k < es.length) : sumD (es.take (k + 1)) = sumD (es.take k) + es[k].1.data.length := by
  induction es generalizing k with
  | nil => exact absurd hk (Nat.not_lt_zero _)
  | cons y es ih =>
    cases k with
    | zero => simp [sumD]
    | succ k =>
      rw [List.take_succ_cons, List.take_succ_cons, sumD, sumD, ih (by simpa using hk), List.getElem_cons_succ]; omega
/-- What the test of entries says: where it says no, they are few. -/
def RetEs (w : World) (es : List RwE) (e : Ending) (w' : World) : Prop := ∃ b : Bool, e = .returned (.bool b) ∧ w' = w ∧ (b = false → es.length ≤ 150 ∧ sumD es ≤ 20000)
set_option maxHeartbeats 4000000 in
theorem long_any (es : List RwE) (p : Option Addr) (n c : Nat) (w : World) (hn : es.length = n) (he : Row w p (es.flatMap cellsRw)) (hl : ∀ y ∈ es, y.1.data.length ≤ 1000000000000000) (hl2 : n ≤ 1000000000000000) :
    Calls Try.prog 27 #[.slice p n c] w (RetEs w es) := by
  have HN := Lib.hid hn
  have HE := Lib.hid he
  have HL := Lib.hid hl
  clear hn he hl
  go_enter Try.func27, Try.ntmps27
  go_wp2
  go_loopw [3, 7] (fun t i wr => ∃ k : Nat, k ≤ n ∧ i = .int .i64 k ∧ Hid (t = .int .i64 (sumD (es.take k) : Nat)) ∧ Hid (wr = w) ∧ Hid (k ≤ 150 ∧ sumD (es.take k) ≤ 20000)) (fun _ i _ => n - (intOf i).toNat)
  case atStart => exact ⟨0, by omega, rfl, rfl, rfl, by show _ ∧ _; simp [sumD]⟩
  case round =>
    obtain ⟨k, hk, rfl, ht, hw, HS⟩ := hrel
    have ht2 := ht.out
    have hw2 := hw.out
    subst ht2 hw2
    clear ht hw
    by_cases hlt : k < n
    · have h1 : k < es.length := by rw [HN.out]; exact hlt
      obtain ⟨b, o, hp, hc⟩ := rowsAt (cells := cellsRw) (size := 5) (fun _ => rfl) HE.out h1 (by decide)
      have q4 := hc 4 (by decide)
      have HST := Lib.hid (sumD_take h1)
      have hdl := HL.out _ (List.getElem_mem h1)
      generalize es[k]'h1 = x at q4 HST hdl
      obtain ⟨⟨v0, v1, v2, v3, v4⟩, ⟨r0, r1⟩⟩ := x
      rw [show (cellsRw ((⟨v0, v1, v2, v3, v4⟩, (r0, r1)) : RwE))[4]? = some (.slice r0 v4.length r1) from rfl] at q4
      simp only at hdl
      have HPP := Lib.hid hp
      clear hc h1
      have hs1 := HS.out.1
      have hs2 := HS.out.2
      have hd : decide (k < n) = true := decide_eq_true hlt
      have HST2 : Hid (sumD (es.take (k + 1)) = sumD (es.take k) + v4.length) := HST
      clear HST
      generalize sumD (es.take k) = T at hs2 HST2 HS ⊢
      have ew : IntKind.i64.wrap ((T : Int) + v4.length) = T + v4.length := IntWalk.i64_in _ (by omega)
      subst hp
      by_cases h40 : 150 ≤ k
      · have d1 : decide ((150 : Int) ≤ k) = true := decide_eq_true (by omega)
        go_wp2
        go_ret
        exact ⟨true, rfl, rfl, fun h => by cases h⟩
      · have d1 : decide ((150 : Int) ≤ k) = false := decide_eq_false (by omega)
        by_cases hb : 20000 < T + v4.length
        · have d2 : decide ((20000 : Int) < (T : Int) + v4.length) = true := decide_eq_true (by omega)
          go_wp2
          go_ret
          exact ⟨true, rfl, rfl, fun h => by cases h⟩
        · have d2 : decide ((20000 : Int) < (T : Int) + v4.length) = false := decide_eq_false (by omega)
          go_wp2
          exact ⟨⟨k + 1, by omega, by go_num, by (show _ = _); rw [HST2.out]; simp, (by first | exact trivial | exact rfl), by (show _ ∧ _); rw [HST2.out]; omega⟩, by simp [intOf]; omega⟩
    · obtain rfl : k = n := by omega
      have hd : decide (k < k) = false := decide_eq_false (by omega)
      go_wp2
      go_ret
      refine ⟨false, rfl, rfl, fun _ => ?_⟩
      have h := HS.out
      rw [List.take_of_length_le (by rw [HN.out]; exact Nat.le_refl _)] at h
      exact ⟨by rw [HN.out]; exact h.1, h.2⟩
def RetGr (w : World) (n : Nat) (e : Ending) (w' : World) : Prop := ∃ b : Bool, e = .returned (.bool b) ∧ Below w.heap.size w w' ∧ (b = false → n ≤ 150)
theorem great_any (es : List RwE) (b t : Int) (a : Option Addr) (n c : Nat) (w : World) (hn : es.length = n) (hl2 : n ≤ 1000000000000000) (hl : ∀ y ∈ es, y.1.data.length ≤ 1000000000000000) (hr : Row w a (es.flatMap cellsRw)) :
    Calls Try.prog 8 #[.agg #[.int .i64 b, .int .i64 t, .slice a n c]] w (RetGr w n) := by
  have HG := Lib.hid (fun w' (hb : Below w.heap.size w w') => long_any es a n c w' hn (hr.mono_below hb) hl hl2)
  have HB0 : Hid (Below w.heap.size w (w.alloc (.cells #[.int .i64 b, .int .i64 t, .slice a n c] 24))) := mid_alloc' (Below.refl _ _)
  have HN := Lib.hid hn
  clear hn hl hr
  go_enter Try.func8, Try.ntmps8
  go_wp2_with (go_at_call 27; ((with_reducible refine (HG.out _ HB0.out).mono ?_); rintro e w2 ⟨v, rfl, rfl, hf⟩; have HF := Lib.hid hf; clear hf))
  go_ret
  exact ⟨v, rfl, HB0.out, fun h => by have := (HF.out h).1; rw [HN.out] at this; exact this⟩
end Go.Proofs.Ytmihgdjnjfjjcaa

/- Rows opened, with what from_any wants of them; few are short. -/
namespace Go.Proofs.Ytmihgdjnjfjjcaa
open Go.ChangeShapes Go.WideShapes Go.ChangeAt Go.RowKit
set_option maxRecDepth 100000

theorem open_rwc {H : Type} {enc : TypeId × Value → H} {w : World} {cs : List Value} (h : Rd enc Try.prog w 58 cs) : ∃ x : RwE, cs = cellsRw x ∧ RowB w x.2.1 x.1.data ∧ x.1.data.length ≤ x.2.2 ∧ x.1.data.length ≤ 1000000000000000 ∧ (x.2.1 = none → x.2.2 = 0) := by
  obtain ⟨hl, hf⟩ := h.struct Try.underlying58
  rw [show Try.prog.cellsOf 58 = 5 by kernel_rfl] at hl
  match cs, hl with
  | [v0, v1, v2, v3, v4], _ =>
    have f0 : Rd enc Try.prog w 3 ((([v0, v1, v2, v3, v4] : List Value).drop 0).take (Try.prog.cellsOf 3)) := hf 0 _ rfl
    rw [show Try.prog.cellsOf 3 = 1 by kernel_rfl] at f0
    replace f0 : Rd enc Try.prog w 3 [v0] := f0
    have f1 : Rd enc Try.prog w 55 ((([v0, v1, v2, v3, v4] : List Value).drop 1).take (Try.prog.cellsOf 55)) := hf 1 _ rfl
    rw [show Try.prog.cellsOf 55 = 1 by kernel_rfl] at f1
    replace f1 : Rd enc Try.prog w 55 [v1] := f1
    have f2 : Rd enc Try.prog w 3 ((([v0, v1, v2, v3, v4] : List Value).drop 2).take (Try.prog.cellsOf 3)) := hf 2 _ rfl
    rw [show Try.prog.cellsOf 3 = 1 by kernel_rfl] at f2
    replace f2 : Rd enc Try.prog w 3 [v2] := f2
    have f3 : Rd enc Try.prog w 5 ((([v0, v1, v2, v3, v4] : List Value).drop 3).take (Try.prog.cellsOf 5)) := hf 3 _ rfl
    rw [show Try.prog.cellsOf 5 = 1 by kernel_rfl] at f3
    replace f3 : Rd enc Try.prog w 5 [v3] := f3
    have f4 : Rd enc Try.prog w 56 ((([v0, v1, v2, v3, v4] : List Value).drop 4).take (Try.prog.cellsOf 56)) := hf 4 _ rfl
    rw [show Try.prog.cellsOf 56 = 1 by kernel_rfl] at f4
    replace f4 : Rd enc Try.prog w 56 [v4] := f4
    obtain ⟨x0, e0, g0⟩ := f0.int Try.underlying3
    replace g0 := bounds_i64 g0
    simp only [List.cons.injEq, and_true] at e0
    subst e0
    obtain ⟨x1, e1, g1⟩ := f1.int Try.underlying55
    replace g1 := bounds_i8 g1
    simp only [List.cons.injEq, and_true] at e1
    subst e1
    obtain ⟨x2, e2, g2⟩ := f2.int Try.underlying3
    replace g2 := bounds_i64 g2
    simp only [List.cons.injEq, and_true] at e2
    subst e2
    obtain ⟨x3, e3, g3⟩ := f3.int Try.underlying5
    replace g3 := bounds_u8 g3
    have u3 : Value.int .u8 x3 = B (UInt8.ofNat x3.toNat) := by unfold B; rw [UInt8.toNat_ofNat']; congr 1; omega
    simp only [List.cons.injEq, and_true] at e3
    subst e3
    have hs4 : ∃ a n c, v4 = .slice a n c := by
      rcases f4.slice Try.underlying56 with h1 | ⟨a, n, c, h1, _⟩
      · simp at h1; exact ⟨_, _, _, h1⟩
      · simp at h1; exact ⟨_, _, _, h1⟩
    obtain ⟨a4, n4, c4, rfl⟩ := hs4
    obtain ⟨l4, m4, nc4, cm4, bb4, z4, r4⟩ := f4.bytes Try.underlying56 Try.underlying5 (by kernel_rfl)
    rw [show Try.prog.bytesOf 5 = 1 by kernel_rfl] at bb4
    subst m4
    have hh : l4.length ≤ 1000000000000000 := by unfold reachBytes at bb4; omega
    exact ⟨(⟨x0, x1, x2, UInt8.ofNat x3.toNat, l4⟩, (a4, c4)), by unfold cellsRw; rw [← u3], r4, nc4, hh, z4⟩
theorem open_rowsc {H : Type} {enc : TypeId × Value → H} {w : World} {cs : List Value} (h : Rd enc Try.prog w 24 cs) : ∃ (b t : Int) (a : Option Addr) (n c : Nat) (es : List RwE), cs = [.int .i64 b, .int .i64 t, .slice a n c] ∧ es.length = n ∧ n ≤ 1000000000000000 ∧ (∀ y ∈ es, RowB w y.2.1 y.1.data ∧ y.1.data.length ≤ y.2.2 ∧ y.1.data.length ≤ 1000000000000000 ∧ (y.2.1 = none → y.2.2 = 0)) ∧ n ≤ c ∧ c ≤ 4000000000000000 ∧ (a = none → c = 0) ∧ Row w a (es.flatMap cellsRw) := by
  obtain ⟨hl, hf⟩ := h.struct Try.underlying24
  rw [show Try.prog.cellsOf 24 = 3 by kernel_rfl] at hl
  match cs, hl with
  | [v0, v1, v2], _ =>
    have f0 : Rd enc Try.prog w 3 ((([v0, v1, v2] : List Value).drop 0).take (Try.prog.cellsOf 3)) := hf 0 _ rfl
    rw [show Try.prog.cellsOf 3 = 1 by kernel_rfl] at f0
    replace f0 : Rd enc Try.prog w 3 [v0] := f0
    have f1 : Rd enc Try.prog w 3 ((([v0, v1, v2] : List Value).drop 1).take (Try.prog.cellsOf 3)) := hf 1 _ rfl
    rw [show Try.prog.cellsOf 3 = 1 by kernel_rfl] at f1
    replace f1 : Rd enc Try.prog w 3 [v1] := f1
    have f2 : Rd enc Try.prog w 22 ((([v0, v1, v2] : List Value).drop 2).take (Try.prog.cellsOf 22)) := hf 2 _ rfl
    rw [show Try.prog.cellsOf 22 = 1 by kernel_rfl] at f2
    replace f2 : Rd enc Try.prog w 22 [v2] := f2
    obtain ⟨x0, e0, -⟩ := f0.int Try.underlying3
    simp only [List.cons.injEq, and_true] at e0
    subst e0
    obtain ⟨x1, e1, -⟩ := f1.int Try.underlying3
    simp only [List.cons.injEq, and_true] at e1
    subst e1
    have hs2 : ∃ a n c, v2 = .slice a n c := by
      rcases f2.slice Try.underlying22 with h1 | ⟨a, n, c, h1, _⟩
      · simp at h1; exact ⟨_, _, _, h1⟩
      · simp at h1; exact ⟨_, _, _, h1⟩
    obtain ⟨a2, n2, c2, rfl⟩ := hs2
    obtain ⟨l2, m2, nc2, cm2, bb2, z2, g2, r2⟩ := Rd.rows (α := RwE) (cells := cellsRw) (size := 5) (good := fun y => RowB w y.2.1 y.1.data ∧ y.1.data.length ≤ y.2.2 ∧ y.1.data.length ≤ 1000000000000000 ∧ (y.2.1 = none → y.2.2 = 0)) (fun _ => rfl) (by decide) Try.underlying22 (by kernel_rfl) (fun cs hcs => open_rwc hcs) f2
    rw [show Try.prog.bytesOf 58 = 56 by kernel_rfl] at bb2
    exact ⟨x0, x1, a2, n2, c2, l2, rfl, m2, by unfold reachBytes at bb2; omega, g2, nc2, by unfold reachBytes at bb2; omega, z2, r2⟩
theorem sumD_each {es : List RwE} : ∀ y ∈ es, y.1.data.length ≤ sumD es := by
  induction es with
  | nil => exact fun y h => by cases h
  | cons x es ih =>
    intro y hy
    rw [sumD]
    rcases List.mem_cons.1 hy with rfl | h
    · omega
    · have := ih y h; omega
def RetGrc (w : World) (es : List RwE) (e : Ending) (w' : World) : Prop := ∃ b : Bool, e = .returned (.bool b) ∧ Below w.heap.size w w' ∧ (b = false → es.length ≤ 150 ∧ sumD es ≤ 20000)
theorem greatc_any (es : List RwE) (b t : Int) (a : Option Addr) (n c : Nat) (w : World) (hn : es.length = n) (hl2 : n ≤ 1000000000000000) (hl : ∀ y ∈ es, y.1.data.length ≤ 1000000000000000) (hr : Row w a (es.flatMap cellsRw)) :
    Calls Try.prog 8 #[.agg #[.int .i64 b, .int .i64 t, .slice a n c]] w (RetGrc w es) := by
  have HG := Lib.hid (fun w' (hb : Below w.heap.size w w') => long_any es a n c w' hn (hr.mono_below hb) hl hl2)
  have HB0 : Hid (Below w.heap.size w (w.alloc (.cells #[.int .i64 b, .int .i64 t, .slice a n c] 24))) := mid_alloc' (Below.refl _ _)
  clear hn hl hr
  go_enter Try.func8, Try.ntmps8
  go_wp2_with (go_at_call 27; ((with_reducible refine (HG.out _ HB0.out).mono ?_); rintro e w2 ⟨v, rfl, rfl, hf⟩; have HF := Lib.hid hf; clear hf))
  go_ret
  exact ⟨v, rfl, HB0.out, HF.out⟩
theorem open_prgb {H : Type} {enc : TypeId × Value → H} {w : World} {cs : List Value} (h : Rd enc Try.prog w 39 cs) : ∃ x : Prg, cs = x.cells ∧ InI x.next := by
  obtain ⟨hl, hf⟩ := h.struct Try.underlying39
  have hn : Try.prog.cellsOf 39 = 3 := by kernel_rfl
  have z_int : Try.prog.cellsOf 3 = 1 := by kernel_rfl
  rw [hn] at hl
  match cs, hl with
  | [v0, v1, v2], _ =>
    have f0 : Rd enc Try.prog w 3 ((([v0, v1, v2] : List Value).drop 0).take (Try.prog.cellsOf 3)) := hf 0 _ rfl
    rw [z_int] at f0
    replace f0 : Rd enc Try.prog w 3 [v0] := f0
    obtain ⟨x0, e0, -⟩ := f0.int Try.underlying3
    have f1 : Rd enc Try.prog w 3 ((([v0, v1, v2] : List Value).drop 1).take (Try.prog.cellsOf 3)) := hf 1 _ rfl
    rw [z_int] at f1
    replace f1 : Rd enc Try.prog w 3 [v1] := f1
    obtain ⟨x1, e1, -⟩ := f1.int Try.underlying3
    have f2 : Rd enc Try.prog w 3 ((([v0, v1, v2] : List Value).drop 2).take (Try.prog.cellsOf 3)) := hf 2 _ rfl
    rw [z_int] at f2
    replace f2 : Rd enc Try.prog w 3 [v2] := f2
    obtain ⟨x2, e2, g2⟩ := f2.int Try.underlying3
    simp only [List.cons.injEq, and_true] at e0 e1 e2
    subst e0
    subst e1
    subst e2
    exact ⟨⟨x0, x1, x2⟩, rfl, by have := bounds_i64 g2; show InI x2; unfold InI; omega⟩
end Go.Proofs.Ytmihgdjnjfjjcaa

