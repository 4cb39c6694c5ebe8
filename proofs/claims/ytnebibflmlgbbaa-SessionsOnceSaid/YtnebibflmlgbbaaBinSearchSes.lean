/- slices.BinarySearchFunc: the place before which all are less. -/
import Derived.Test.YtnebibflmlgbbaaSesLay
import Derived.Test.YtnebibflmlgbbaaIdx
import Derived.Deep.RegionHeld3
namespace Go.Proofs.Ytnebibflmlgbbaa
open Go.ChangeShapes Go.WideShapes Go.ChangeAt Go.RowKit

set_option maxHeartbeats 4000000 in
set_option maxRecDepth 100000 in
theorem binSearchSes (xs : List Session) (y : Session) (a : Option Addr) (n c : Nat) (fid : FuncId) (cap : Array Value) (cmp : Session → Int) (k0 : Nat) (w : World) (hn : xs.length = n) (hl : n ≤ 1000000) (hr : LRow laySes w a xs)
    (hcf : ∀ (args : Array Value) (w : World), (callFunc fid args).run Try.prog w = .ok (.enter fid args) w)
    (hf : ∀ x ∈ xs, ∀ w', Below w.heap.size w w' → Calls Try.prog fid (#[x.agg, y.agg] ++ cap) w' fun e w'' => e = .returned (.int .i64 (cmp x)) ∧ Below w'.heap.size w' w'')
    (hk0 : k0 ≤ n) (hlo : ∀ j (h : j < xs.length), j < k0 → cmp xs[j] < 0) (hhi : ∀ j (h : j < xs.length), k0 ≤ j → 0 ≤ cmp xs[j]) :
    Calls Try.prog 24 #[.slice a n c, y.agg, .func (.func fid) #[] cap] w fun e w' => e = .returned (.tuple #[.int .i64 k0, .bool (hitAt cmp xs[k0]?)]) ∧ Below w.heap.size w w' := by
  subst hn
  have HF := Lib.hid hf
  have HLO := Lib.hid hlo
  have HHI := Lib.hid hhi
  have HE : Hid (∀ x, xs[k0]? = some x → (hitAt cmp xs[k0]?) = (cmp x == 0)) := fun x hx => by rw [hx]; rfl
  have HN : Hid (xs[k0]? = none → (hitAt cmp xs[k0]?) = false) := fun hx => by rw [hx]; rfl
  generalize hitAt cmp xs[k0]? = res at HE HN ⊢
  clear hf hlo hhi
  have HY : ∀ w', Below (w.alloc (.cells (Session.cells y).toArray 44)).heap.size (w.alloc (.cells (Session.cells y).toArray 44)) w' → w'.rangeAt w.heap.size 0 (Session.cells y) := fun w' hb j v hv => by
    rw [Nat.zero_add, own_cells hb j, List.getElem?_toArray, hv]
  have HYY := Lib.hid HY
  clear HY
  go_enter Try.func24, Try.ntmps24
  go_wp2
  go_loopw [9, 10] (fun si sj wr => ∃ i j : Nat, si = .int .i64 i ∧ sj = .int .i64 j ∧ i ≤ k0 ∧ k0 ≤ j ∧ j ≤ xs.length ∧ Hid (Below (w.alloc (.cells (Session.cells y).toArray 44)).heap.size (w.alloc (.cells (Session.cells y).toArray 44)) wr)) (fun si sj _ => (intOf sj).toNat - (intOf si).toNat)
  case atStart => exact ⟨0, xs.length, rfl, rfl, by omega, hk0, by omega, Below.refl _ _⟩
  case round =>
    obtain ⟨i, j, rfl, rfl, hik, hkj, hjn, hb⟩ := hrel
    by_cases hlt : i < j
    · obtain ⟨m, hm⟩ : ∃ m : Nat, ((i : Int) + (j : Int)) / 2 = (m : Int) := ⟨(i + j) / 2, by omega⟩
      have him : i ≤ m := by omega
      have hmj : m < j := by omega
      have hmx : m < xs.length := by omega
      have HM := Lib.hid hm
      clear hm
      obtain ⟨b, o, rfl, hrg⟩ := atSes hr hmx
      have hbw : Below w.heap.size w wr := ((Below.refl w.heap.size w).alloc (Nat.le_refl _) _).trans (hb.mono (by simp))
      have hx0 := hrg wr hbw
      have hy0 := cellsSes (HYY.out wr hb.out)
      simp only [Nat.zero_add] at hy0
      have HX := Lib.hid hx0
      have HYL := Lib.hid hy0
      have HF1 := Lib.hid (fun w' hb => HF.out xs[m] (List.getElem_mem hmx) w' hb)
      have HLO1 := Lib.hid (fun h : m < k0 => HLO.out m hmx h)
      have HHI1 := Lib.hid (fun h : k0 ≤ m => HHI.out m hmx h)
      generalize hxm : xs[m] = x at HX HF1 HLO1 HHI1
      clear hrg hx0 hy0 hxm
      go_wp2
      rw [HM.out]
      have hx := HX.out
      have hy := HYL.out
      go_still_tail 6, (by kernel_rfl)
      change wpList _ _ _ _ _ wr.drew
      clear hx hy
      go_wp2_with (refine (HF1.out _ hbw.drew).mono ?_; rintro e w4 ⟨rfl, hb4⟩)
      · have hmk : m < k0 := by
          rcases Nat.lt_or_ge m k0 with h | h
          · exact h
          · have := HHI1.out h; omega
        exact ⟨⟨m + 1, j, by go_num, rfl, by omega, hkj, hjn, hb.out.drew.trans (hb4.mono hb.out.size)⟩, by simp [intOf]; omega⟩
      · have hmk : k0 ≤ m := by
          rcases Nat.lt_or_ge m k0 with h | h
          · have := HLO1.out h; omega
          · exact h
        exact ⟨⟨i, m, rfl, rfl, hik, hmk, by omega, hb.out.drew.trans (hb4.mono hb.out.size)⟩, by simp [intOf]; omega⟩
    · obtain rfl : i = k0 := by omega
      have hbw : Below w.heap.size w wr := ((Below.refl w.heap.size w).alloc (Nat.le_refl _) _).trans (hb.out.mono (by simp))
      by_cases hkn : i < xs.length
      · obtain ⟨b, o, rfl, hrg⟩ := atSes hr hkn
        have hx0 := hrg wr hbw
        have hy0 := cellsSes (HYY.out wr hb.out)
        simp only [Nat.zero_add] at hy0
        have HX := Lib.hid hx0
        have HYL := Lib.hid hy0
        have HF1 := Lib.hid (fun w' hb => HF.out xs[i] (List.getElem_mem hkn) w' hb)
        have HE1 := Lib.hid (HE.out xs[i] (List.getElem?_eq_getElem hkn))
        have HRG := Lib.hid hrg
        generalize hxm : xs[i] = x at HX HF1 HE1 HRG
        clear hrg hx0 hy0 hxm HE HN
        have hg8 : decide ((i : Int) < (xs.length : Int)) = true := decide_eq_true (by omega)
        go_wp2
        go_region_held3 (fun w' => (w'.cell? ⟨b, o + i * 7, none⟩ = some (.int .i64 x.client) ∧ w'.cell? ⟨b, o + i * 7 + 1, none⟩ = some (.int .i64 x.number) ∧ w'.cell? ⟨b, o + i * 7 + 2, none⟩ = some (.int .i64 x.answer.e) ∧ w'.cell? ⟨b, o + i * 7 + 3, none⟩ = some (.int .i64 x.answer.rate) ∧ w'.cell? ⟨b, o + i * 7 + 4, none⟩ = some (.int .i64 x.answer.burst) ∧ w'.cell? ⟨b, o + i * 7 + 5, none⟩ = some (.int .i64 x.answer.lease) ∧ w'.cell? ⟨b, o + i * 7 + 6, none⟩ = some (.int .i64 x.answer.size)) ∧ (w'.cell? ⟨w.heap.size, 0, none⟩ = some (.int .i64 y.client) ∧ w'.cell? ⟨w.heap.size, 1, none⟩ = some (.int .i64 y.number) ∧ w'.cell? ⟨w.heap.size, 2, none⟩ = some (.int .i64 y.answer.e) ∧ w'.cell? ⟨w.heap.size, 3, none⟩ = some (.int .i64 y.answer.rate) ∧ w'.cell? ⟨w.heap.size, 4, none⟩ = some (.int .i64 y.answer.burst) ∧ w'.cell? ⟨w.heap.size, 5, none⟩ = some (.int .i64 y.answer.lease) ∧ w'.cell? ⟨w.heap.size, 6, none⟩ = some (.int .i64 y.answer.size))) ((first | exact ⟨HX.out, HYL.out⟩ | exact ⟨HX4.out, HY4.out⟩)) (first | (refine (HF1.out _ (by first | exact hbw | exact hbw.drew)).mono ?_; rintro e w4 ⟨rfl, hb4⟩; have HX4 := Lib.hid (HRG.out w4 (hbw.drew.trans (hb4.mono hbw.size))); have hy4 := cellsSes (HYY.out w4 (hb.out.drew.trans (hb4.mono hb.out.size))); simp only [Nat.zero_add] at hy4; have HY4 := Lib.hid hy4; clear hy4))
        go_wp2
        go_returns
        exact ⟨by rw [HE1.out]; rfl, hbw.drew.trans (hb4.mono hbw.size)⟩
      · have HN1 := Lib.hid (HN.out (List.getElem?_eq_none (by omega)))
        have hg8 : decide ((i : Int) < (xs.length : Int)) = false := decide_eq_false (by omega)
        go_wp2
        go_quiet (fail)
        go_wp2
        go_returns
        exact ⟨by rw [HN1.out]; rfl, below_drewN hbw _⟩
end Go.Proofs.Ytnebibflmlgbbaa
