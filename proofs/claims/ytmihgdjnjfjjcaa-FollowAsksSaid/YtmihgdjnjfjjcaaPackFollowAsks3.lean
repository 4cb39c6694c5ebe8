import Derived.Test.YtmihgdjnjfjjcaaPackFollowAsks1
import Derived.Test.YtmihgdjnjfjjcaaRwMem
import Derived.WalkSpells
set_option linter.unusedVariables false
set_option linter.unusedSimpArgs false
/- A slice of truths, rows of entries: arguments opened. -/
namespace Go.Proofs.Ytmihgdjnjfjjcaa
open Go.ChangeShapes Go.WideShapes Go.ChangeAt Go.RowKit Go.Deep
set_option maxRecDepth 100000

/-- A slice of truths, opened. -/
theorem Rd.bools {H : Type} {enc : TypeId × Value → H} {P : Program} {w : World} {t : TypeId} {e : TypeId} {a : Option Addr} {len cap : Nat} (ht : P.underlying t = some (.slice e)) (he : P.underlying e = some .bool) (hc : P.cellsOf e = 1) (h : Rd enc P w t [.slice a len cap]) :
    ∃ zs : List Bool, zs.length = len ∧ len ≤ cap ∧ cap ≤ maxLen ∧ cap * P.bytesOf e ≤ reachBytes ∧ (a = none → cap = 0) ∧ Row w a (zs.map Value.bool) := by
  rcases h.slice ht with h1 | ⟨x, l, c, h1, hl, hm, hby, hel⟩
  · simp at h1
    obtain ⟨rfl, rfl, rfl⟩ := h1
    exact ⟨[], rfl, Nat.le_refl _, Nat.zero_le _, by simp, fun _ => rfl, .inl rfl⟩
  · simp at h1
    obtain ⟨rfl, rfl, rfl⟩ := h1
    rw [hc] at hel
    have hv : ∀ i, i < len → ∃ n, w.cell? (x.add i) = some (.bool n) := by
      intro i hi
      obtain ⟨cs, hcs, hr⟩ := hel i (by omega)
      obtain ⟨n, rfl⟩ := hr.bool he
      refine ⟨n, ?_⟩
      rw [Nat.mul_one] at hcs
      simp only [World.cells?, Nat.zero_le, if_true, List.range_succ, List.range_zero, List.nil_append] at hcs
      have he : (x.add i).add 0 = x.add i := by simp [Addr.add]
      simp only [List.mapM_cons, List.mapM_nil, he] at hcs
      revert hcs
      cases w.cell? (x.add i) with
      | none => intro h; cases h
      | some v => intro h; simpa using h
    obtain ⟨g, hg⟩ := choose_lt (p := fun i n => w.cell? (x.add i) = some (.bool n)) hv
    refine ⟨(List.range len).map g, by simp, hl, hm, hby, fun e => by simp at e, ?_⟩
    · by_cases h0 : len = 0
      · subst h0; exact .inl rfl
      · have hs := World.cell?_spot (hg 0 (by omega))
        have hspot : x.spot = none := by simpa [Addr.add] using hs
        obtain ⟨b, o, spot⟩ := x
        simp only at hspot
        subst hspot
        refine .inr ⟨b, o, rfl, fun i hi => ?_⟩
        simp only [List.length_map, List.length_range] at hi
        have := (hg i hi)
        by_cases hi0 : i = 0
        · subst hi0; simpa [Addr.add] using this
        · simpa [Addr.add, hi0] using this
end Go.Proofs.Ytmihgdjnjfjjcaa

/- Rows opened. -/
namespace Go.Proofs.Ytmihgdjnjfjjcaa
open Go.ChangeShapes Go.WideShapes Go.ChangeAt Go.RowKit
set_option maxRecDepth 100000

theorem open_rwe {H : Type} {enc : TypeId × Value → H} {w : World} {cs : List Value} (h : Rd enc Try.prog w 58 cs) : ∃ x : RwE, cs = cellsRw x ∧ RowB w x.2.1 x.1.data ∧ x.1.data.length ≤ x.2.2 ∧ x.1.data.length ≤ 1000000000000000 := by
  obtain ⟨hl, hf⟩ := h.struct Try.underlying58
  rw [show Try.prog.cellsOf 58 = 5 by kernel_rfl] at hl
  match cs, hl with
  | [v0, v1, v2, v3, v4], _ =>
    have f0 : Rd enc Try.prog w 3 ((([v0, v1, v2, v3, v4] : List Value).drop 0).take (Try.prog.cellsOf 3)) := hf 0 _ rfl
    rw [show Try.prog.cellsOf 3 = 1 by kernel_rfl] at f0
    replace f0 : Rd enc Try.prog w 3 [v0] := f0
    have f1 : Rd enc Try.prog w 55 ((([v0, v1, v2, v3, v4] : List Value).drop 1).take (Try.prog.cellsOf 55)) := hf 1 _ rfl
    rw [show Try.prog.cellsOf 55 = 1 by kernel_rfl] at f1
    replace f1 : Rd enc Try.prog w 55 [v1] := f1
    have f2 : Rd enc Try.prog w 3 ((([v0, v1, v2, v3, v4] : List Value).drop 2).take (Try.prog.cellsOf 3)) := hf 2 _ rfl
    rw [show Try.prog.cellsOf 3 = 1 by kernel_rfl] at f2
    replace f2 : Rd enc Try.prog w 3 [v2] := f2
    have f3 : Rd enc Try.prog w 5 ((([v0, v1, v2, v3, v4] : List Value).drop 3).take (Try.prog.cellsOf 5)) := hf 3 _ rfl
    rw [show Try.prog.cellsOf 5 = 1 by kernel_rfl] at f3
    replace f3 : Rd enc Try.prog w 5 [v3] := f3
    have f4 : Rd enc Try.prog w 56 ((([v0, v1, v2, v3, v4] : List Value).drop 4).take (Try.prog.cellsOf 56)) := hf 4 _ rfl
    rw [show Try.prog.cellsOf 56 = 1 by kernel_rfl] at f4
    replace f4 : Rd enc Try.prog w 56 [v4] := f4
    obtain ⟨x0, e0, g0⟩ := f0.int Try.underlying3
    replace g0 := bounds_i64 g0
    simp only [List.cons.injEq, and_true] at e0
    subst e0
    obtain ⟨x1, e1, g1⟩ := f1.int Try.underlying55
    replace g1 := bounds_i8 g1
    simp only [List.cons.injEq, and_true] at e1
    subst e1
    obtain ⟨x2, e2, g2⟩ := f2.int Try.underlying3
    replace g2 := bounds_i64 g2
    simp only [List.cons.injEq, and_true] at e2
    subst e2
    obtain ⟨x3, e3, g3⟩ := f3.int Try.underlying5
    replace g3 := bounds_u8 g3
    have u3 : Value.int .u8 x3 = B (UInt8.ofNat x3.toNat) := by unfold B; rw [UInt8.toNat_ofNat']; congr 1; omega
    simp only [List.cons.injEq, and_true] at e3
    subst e3
    have hs4 : ∃ a n c, v4 = .slice a n c := by
      rcases f4.slice Try.underlying56 with h1 | ⟨a, n, c, h1, _⟩
      · simp at h1; exact ⟨_, _, _, h1⟩
      · simp at h1; exact ⟨_, _, _, h1⟩
    obtain ⟨a4, n4, c4, rfl⟩ := hs4
    obtain ⟨l4, m4, nc4, cm4, bb4, -, r4⟩ := f4.bytes Try.underlying56 Try.underlying5 (by kernel_rfl)
    rw [show Try.prog.bytesOf 5 = 1 by kernel_rfl] at bb4
    subst m4
    have hh : l4.length ≤ 1000000000000000 := by unfold reachBytes at bb4; omega
    exact ⟨(⟨x0, x1, x2, UInt8.ofNat x3.toNat, l4⟩, (a4, c4)), by unfold cellsRw; rw [← u3], r4, nc4, hh⟩
theorem open_rows {H : Type} {enc : TypeId × Value → H} {w : World} {cs : List Value} (h : Rd enc Try.prog w 24 cs) : ∃ (b t : Int) (a : Option Addr) (n c : Nat) (es : List RwE), cs = [.int .i64 b, .int .i64 t, .slice a n c] ∧ es.length = n ∧ n ≤ 1000000000000000 ∧ (∀ y ∈ es, RowB w y.2.1 y.1.data ∧ y.1.data.length ≤ y.2.2 ∧ y.1.data.length ≤ 1000000000000000) ∧ Row w a (es.flatMap cellsRw) := by
  obtain ⟨hl, hf⟩ := h.struct Try.underlying24
  rw [show Try.prog.cellsOf 24 = 3 by kernel_rfl] at hl
  match cs, hl with
  | [v0, v1, v2], _ =>
    have f0 : Rd enc Try.prog w 3 ((([v0, v1, v2] : List Value).drop 0).take (Try.prog.cellsOf 3)) := hf 0 _ rfl
    rw [show Try.prog.cellsOf 3 = 1 by kernel_rfl] at f0
    replace f0 : Rd enc Try.prog w 3 [v0] := f0
    have f1 : Rd enc Try.prog w 3 ((([v0, v1, v2] : List Value).drop 1).take (Try.prog.cellsOf 3)) := hf 1 _ rfl
    rw [show Try.prog.cellsOf 3 = 1 by kernel_rfl] at f1
    replace f1 : Rd enc Try.prog w 3 [v1] := f1
    have f2 : Rd enc Try.prog w 22 ((([v0, v1, v2] : List Value).drop 2).take (Try.prog.cellsOf 22)) := hf 2 _ rfl
    rw [show Try.prog.cellsOf 22 = 1 by kernel_rfl] at f2
    replace f2 : Rd enc Try.prog w 22 [v2] := f2
    obtain ⟨x0, e0, -⟩ := f0.int Try.underlying3
    simp only [List.cons.injEq, and_true] at e0
    subst e0
    obtain ⟨x1, e1, -⟩ := f1.int Try.underlying3
    simp only [List.cons.injEq, and_true] at e1
    subst e1
    have hs2 : ∃ a n c, v2 = .slice a n c := by
      rcases f2.slice Try.underlying22 with h1 | ⟨a, n, c, h1, _⟩
      · simp at h1; exact ⟨_, _, _, h1⟩
      · simp at h1; exact ⟨_, _, _, h1⟩
    obtain ⟨a2, n2, c2, rfl⟩ := hs2
    obtain ⟨l2, m2, nc2, cm2, bb2, -, g2, r2⟩ := Rd.rows (α := RwE) (cells := cellsRw) (size := 5) (good := fun y => RowB w y.2.1 y.1.data ∧ y.1.data.length ≤ y.2.2 ∧ y.1.data.length ≤ 1000000000000000) (fun _ => rfl) (by decide) Try.underlying22 (by kernel_rfl) (fun cs hcs => open_rwe hcs) f2
    rw [show Try.prog.bytesOf 58 = 56 by kernel_rfl] at bb2
    exact ⟨x0, x1, a2, n2, c2, l2, rfl, m2, by unfold reachBytes at bb2; omega, g2, r2⟩
end Go.Proofs.Ytmihgdjnjfjjcaa

/- Entries: their lay. -/
namespace Go.Proofs.Ytmihgdjnjfjjcaa
open Go.ChangeShapes Go.WideShapes Go.ChangeAt Go.RowKit
set_option maxRecDepth 100000

def layRw : Lay Try.prog 58 RwE := Lay.struct cellsRw 5 56 (fun _ => rfl) (by decide) (by decide) (fun x u hu => by simp at hu; rcases hu with h | h | h | h | h <;> subst h <;> rfl) (by kernel_rfl) _ Try.underlying58 rfl
end Go.Proofs.Ytmihgdjnjfjjcaa

/- slices.Clone: the same things in a row that may be written. -/
namespace Go.Proofs.Ytmihgdjnjfjjcaa
open Go.ChangeShapes Go.WideShapes Go.ChangeAt Go.RowKit
set_option maxRecDepth 100000

def RetOwnRw (w : World) (xs : List RwE) (e : Ending) (w' : World) : Prop :=
  ∃ a c, e = .returned (.slice a xs.length c) ∧ Near w.heap.size none a ∧ Can w' w.heap.size 58 (layRw).size a xs.length c (xs.flatMap (layRw).cells) ∧
    (0 < xs.length → w'.ownsRow w.heap.size 58 (layRw).size (.slice a xs.length c) xs.length (xs.flatMap (layRw).cells)) ∧ (∀ b o s, a = some ⟨b, o, s⟩ → b < w'.heap.size) ∧ Below w.heap.size w w'

theorem cloneRw (xs : List RwE) (a : Option Addr) (n c : Nat) (w : World) (hn : xs.length = n) (hby : n * (layRw).bytes ≤ 140737488355328) (hm : n ≤ maxLen) (hc : a = none → c = 0) (hnc : n ≤ c) (hr : LRow layRw w a xs) :
    Calls Try.prog 53 #[.slice a n c] w (RetOwnRw w xs) := by
  subst hn
  cases a with
  | none =>
    obtain rfl := hc rfl
    have h0 : xs.length = 0 := by omega
    obtain rfl : xs = [] := List.eq_nil_of_length_eq_zero h0
    go_enter Try.func53, Try.ntmps53
    have hnil := Lib.run_eql_slice_nil (P := Try.prog) w 22 58 none 0 0 0 0 Try.underlying22
    go_wp2
    go_returns
    exact ⟨none, 0, rfl, Near.nil _ _, Can.nil _ _ _ _, fun h => absurd h (by simp), fun _ _ _ h => (by cases h), Below.refl _ _⟩
  | some x =>
    have HR := Lib.hid hr
    clear hr
    go_enter Try.func53, Try.ntmps53
    have hnil := Lib.run_eql_slice_nil (P := Try.prog) w 22 58 (some x) xs.length c 0 0 Try.underlying22
    go_wp2_with (at_builtin; refine wpList_can ((layRw).elem Try.underlying22) rfl _ _ rfl w.heap.size _ 0 _ _ rfl (Can.empty _ _ _ _ _) _ xs.length _ (xs.flatMap (layRw).cells) rfl ((layRw).length _) (Row.alloc HR.out _) ((layRw).ones _) (by rw [Nat.zero_add]; exact hby) (by simp) ?_; intro a' c' w3 hcan3 _ hb3 hown)
    go_returns
    rw [Nat.zero_add, List.nil_append] at hcan3 hown
    have hnear : Near w.heap.size none a' := by
      by_cases h0 : 0 < xs.length
      · exact Near.own (hown.1 h0) (Nat.le_refl _)
      · rw [(hown.2 (by omega)).1]
        intro b o s hb
        simp at hb
        exact .inl (by omega)
    have hblt : ∀ b o s, a' = some ⟨b, o, s⟩ → b < w3.heap.size := fun b o s hab => by
      by_cases h0 : 0 < xs.length
      · exact ((hown.1 h0).lt b (by rw [hab]; rfl)).2
      · have h1 := hb3.size
        rw [(hown.2 (by omega)).1] at hab
        simp at hab h1
        omega
    exact ⟨a', c', rfl, hnear, hcan3, fun h => hown.1 h, hblt, ((Below.refl _ _).alloc (Nat.le_refl _) _).trans hb3⟩
end Go.Proofs.Ytmihgdjnjfjjcaa
