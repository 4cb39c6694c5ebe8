import Derived.Test.YtmihgdjnjfjjcaaPackFollowAsks2
import Derived.Test.YtmihgdjnjfjjcaaPackFollowAsks4
import Derived.IntWalk
import Derived.RegionTactic
import Derived.ChangeAlike
set_option linter.unusedVariables false
set_option linter.unusedSimpArgs false
/- A short row sorted from the greatest on (slices.insertionSortCmpFunc at follow.down's closure). -/
namespace Go.Proofs.Ytmihgdjnjfjjcaa
open Go.ChangeShapes Go.WideShapes Go.ChangeAt Go.RowKit
set_option maxRecDepth 100000

abbrev ints (l : List Int) : List Value := l.map (Value.int .i64)
theorem ints_at {l : List Int} {k : Nat} (h : k < l.length) : (ints l)[k]? = some (.int .i64 (l.getD k 0)) := by
  rw [getD_of h]; unfold ints; rw [List.getElem?_map, List.getElem?_eq_getElem h]; rfl
theorem only_set {g i : Nat} {w w' : World} (h : Only g w w') (v : Value) : Only g w (w'.setCell ⟨g, i, none⟩ v) :=
  h.put (fun B hB => (Below.refl _ _).setCell hB _) (fun k hk => Below.heap_setCell _ _ _ _ (fun e => hk e))
theorem only_drew {g : Nat} {w w' : World} (h : Only g w w') : Only g w w'.drew := h.next (Below.refl _ _).drew
theorem only_drewN {g : Nat} {w w' : World} (h : Only g w w') (n : Nat) : Only g w (w'.drewN n) := h.next (below_drewN (Below.refl _ _) n)
theorem box_drewN {g : Nat} {w : World} {cs : List Value} (h : Box w g cs) (n : Nat) : Box (w.drewN n) g cs := h.block rfl
theorem box_sw {w : World} {g : Nat} {l : List Int} {j : Nat} (h : Box w g (ints l)) (h1 : 1 ≤ j) (hj : j < l.length) : Box ((w.setCell ⟨g, j, none⟩ (.int .i64 (l.getD (j - 1) 0))).setCell ⟨g, j - 1, none⟩ (.int .i64 (l.getD j 0))) g (ints (sw l j)) := by
  have a := (h.set (i := j) (by simpa [ints] using hj) (.int .i64 (l.getD (j - 1) 0))).set (i := j - 1) (by simp [ints]; omega) (.int .i64 (l.getD j 0))
  have e : ints (sw l j) = ((ints l).set j (.int .i64 (l.getD (j - 1) 0))).set (j - 1) (.int .i64 (l.getD j 0)) := by unfold ints sw; rw [List.map_set, List.map_set]
  rw [e]; exact a
/-- The row in block g holds the same numbers, from the greatest on; all else stands. -/
def RetSort (w : World) (g : Nat) (l : List Int) (e : Ending) (w' : World) : Prop := e = .returned (.tuple #[]) ∧ ∃ s : List Int, s.Perm l ∧ s.Pairwise (fun a b => b ≤ a) ∧ Box w' g (ints s) ∧ Only g w w'
set_option maxHeartbeats 8000000 in
theorem insertion_any (g n c : Nat) (l : List Int) (w : World) (hn : l.length = n) (h1 : 1 ≤ n) (h7 : n ≤ 7) (hc : n ≤ c) (hx : Box w g (ints l)) :
    Calls Try.prog 55 #[.slice (some ⟨g, 0, none⟩) n c, .int .i64 0, .int .i64 n, .func (.func 44) #[] #[]] w (RetSort w g l) := by
  have HX := Lib.hid hx
  have HN := Lib.hid hn
  clear hx hn
  go_enter Try.func55, Try.ntmps55
  go_wp2_with fail
  go_loopw [8] (fun i wr => ∃ (m : Nat) (l1 : List Int), 1 ≤ m ∧ m ≤ n ∧ i = .int .i64 m ∧ Hid (l1.Perm l) ∧ Hid (Srt l1 (m - 1)) ∧ Hid (Box wr g (ints l1)) ∧ Hid (Only g w wr)) (fun i _ => n - (intOf i).toNat)
  case atStart => exact ⟨1, l, Nat.le_refl _, h1, rfl, List.Perm.refl _, Srt.zero _, HX.out, Only.refl _ _⟩
  case round =>
    clear HX
    obtain ⟨m, l1, hm1, hmn, rfl, HP, HS, HB, HO⟩ := hrel
    obtain ⟨wo, hwo⟩ : ∃ wo, wo = wr := ⟨_, rfl⟩
    subst hwo
    have HL1 : Hid (l1.length = n) := HP.out.length_eq.trans HN.out
    by_cases hlt : m < n
    · go_wp2_with fail
      go_loopw [9] (fun jv wq => ∃ (j : Nat) (l2 : List Int), j ≤ m ∧ jv = .int .i64 j ∧ Hid (l2.Perm l) ∧ Hid (SB l2 m j) ∧ Hid (Box wq g (ints l2)) ∧ Hid (Only g w wq)) (fun jv _ => (intOf jv).toNat)
      case atStart => exact ⟨m, l1, Nat.le_refl _, rfl, HP.out, by have := HS.out.next; rw [Nat.sub_add_cancel hm1] at this; exact this, HB.out, HO.out⟩
      case round =>
        clear HP HS HB HO HL1
        obtain ⟨j, l2, hj, rfl, HP, HS, HB, HO⟩ := hrel
        have HL2 : Hid (l2.length = n) := HP.out.length_eq.trans HN.out
        by_cases h0 : 0 < j
        · have hjl : j < l2.length := by rw [HL2.out]; omega
          have x0 := HB.out.cell (ints_at hjl)
          have x1 := HB.out.cell (ints_at (show j - 1 < l2.length by omega))
          have z0 := HB.out.froz (j := j) (by rw [List.length_map]; exact hjl)
          have z1 := HB.out.froz (j := j - 1) (by rw [List.length_map]; omega)
          have HSW := Lib.hid (fun w' (h : Box w' g (ints l2)) => box_sw h h0 hjl)
          have HST := Lib.hid (fun h => HS.out.step h0 hj (by rw [HL2.out]; exact hlt) h)
          have HDN := Lib.hid (fun h => HS.out.done hj (.inr h))
          have HPS := Lib.hid ((sw_perm hjl).trans HP.out)
          generalize l2.getD j 0 = x at x0 HSW HST HDN
          generalize l2.getD (j - 1) 0 = y at x1 HSW HST HDN
          have HDC := Lib.hid (fun nq => (downc_any x y (wr.drewN nq)).mono (fun _ _ h => (⟨h.1, h.2⟩ : _ ∧ _)))
          have hcn := cmpI_neg y x
          have HCE := Lib.hid hcn
          clear hcn hjl
          have g1 : IntKind.i64.wrap ((j : Int) - 1) = (j : Int) - 1 := IntWalk.i64_in _ (by omega)
          have g2 : (0 : Int) ≤ (j : Int) - 1 := by omega
          have g3 : (j : Int) - 1 < (n : Int) := by omega
          have g4 : ((j : Int) - 1).toNat = j - 1 := by omega
          have g5 : (j : Int) < (n : Int) := by omega
          have hd : decide (0 < j) = true := decide_eq_true h0
          rcases hyx : decide (y < x) with _ | _
          · have hcf : decide (cmpI y x < 0) = false := HCE.out.trans hyx
            generalize cmpI y x = cv at HDC hcf
            go_wp2_with fail
            go_quiet ((exact Calls.quiet_of_same (HDC.out _)))
            go_wp2_with fail
            go_roundw
            case rel => exact ⟨m + 1, l2, by omega, by omega, by go_num, HP.out, HDN.out (by have := of_decide_eq_false hyx; omega), box_drewN HB.out _, only_drewN HO.out _⟩
            case measure => simp [intOf]; omega
          · have hcf : decide (cmpI y x < 0) = true := HCE.out.trans hyx
            generalize cmpI y x = cv at HDC hcf
            go_wp2_with fail
            go_quiet ((exact Calls.quiet_of_same (HDC.out _)))
            go_wp2_with fail
            go_region
            go_wp2_with fail
            go_roundw
            case rel => exact ⟨j - 1, sw l2 j, by omega, congrArg (Value.int .i64) (by omega), HPS.out, HST.out (of_decide_eq_true hyx), HSW.out _ (box_drewN HB.out _), only_set (only_set (only_drewN HO.out _) _) _⟩
            case measure => simp [intOf]; omega
        · obtain rfl : j = 0 := by omega
          have hd : decide ((0 : Int) < 0) = false := rfl
          go_wp2_with fail
          go_quiet (fail)
          go_wp2_with fail
          go_roundw
          case rel => exact ⟨m + 1, l2, by omega, by omega, by go_num, HP.out, HS.out.done (by omega) (.inl rfl), box_drewN HB.out _, only_drewN HO.out _⟩
          case measure => simp [intOf]; omega
    · obtain rfl : m = n := by omega
      go_wp2_with fail
      go_end0
      exact ⟨rfl, l1, HP.out, HS.out.pair (by rw [HL1.out]; omega), HB.out, HO.out⟩
end Go.Proofs.Ytmihgdjnjfjjcaa
