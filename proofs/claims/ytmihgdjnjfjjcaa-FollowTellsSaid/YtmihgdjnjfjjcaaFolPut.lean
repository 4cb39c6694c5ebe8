import Derived.Test.YtmihgdjnjfjjcaaPackFollowTells1
set_option linter.unusedVariables false
set_option linter.unusedSimpArgs false
/- A node's progress put (follow.Put). -/
namespace Go.Proofs.Ytmihgdjnjfjjcaa
open Go.ChangeShapes Go.WideShapes Go.ChangeAt Go.RowKit
set_option maxRecDepth 100000

def putF : List Prg → Prg → List Prg
  | [], p => [p]
  | x :: l, p => if x.node = p.node then p :: l else x :: putF l p
theorem putF_none {l : List Prg} {p : Prg} (h : ∀ x ∈ l, ¬ x.node = p.node) : putF l p = l ++ [p] := by
  induction l with
  | nil => rfl
  | cons x l ih =>
    show (if x.node = p.node then _ else _) = _
    rw [if_neg (h x (List.mem_cons_self ..)), ih (fun y hy => h y (List.mem_cons_of_mem _ hy))]; rfl
theorem putF_at {l : List Prg} {p : Prg} : ∀ {k : Nat} (hk : k < l.length), l[k].node = p.node → (∀ j (h : j < l.length), j < k → ¬ l[j].node = p.node) → putF l p = l.set k p := by
  induction l with
  | nil => intro k hk; exact absurd hk (Nat.not_lt_zero _)
  | cons x l ih =>
    intro k hk h hno
    show (if x.node = p.node then _ else _) = _
    cases k with
    | zero => rw [if_pos (show x.node = p.node from h)]; rfl
    | succ k =>
      rw [if_neg (show ¬ x.node = p.node from hno 0 (by simp) (by omega)), ih (by simpa using hk) h (fun j hj hjk => hno (j + 1) (by simpa using hj) (by omega))]; rfl
theorem el_prg : Elem Try.prog 25 39 3 24 := layPrg.elem Try.underlying25
theorem Can.next' {w w' : World} {B n c : Nat} {e : TypeId} {size : Nat} {a : Option Addr} {xs : List Value} (h : Can w B e size a n c xs) (hb : Below w.heap.size w w') : Can w' B e size a n c xs :=
  ⟨h.1, h.2.1, h.2.2.imp (fun h1 => ⟨h1.1, Row.below h1.2 hb⟩) (fun h1 => own_mid (B := 0) h1 (Mid.below hb (Nat.le_refl _)) (Nat.zero_le _) (Nat.le_refl _))⟩
/-- A copy of a row that is not empty. -/
def RetCl (w : World) (l : List Prg) (e : Ending) (w' : World) : Prop := ∃ g c3, e = .returned (.slice (some ⟨g, 0, none⟩) l.length c3) ∧ w.heap.size ≤ g ∧ Mine layPrg w' w.heap.size g 0 l ∧ l.length ≤ c3 ∧ Below w.heap.size w w'
theorem cloneMine {w : World} {l : List Prg} (h0 : 0 < l.length) {e : Ending} {w' : World} (h : RetOwnPrg w l e w') : RetCl w l e w' := by
  obtain ⟨a3, c3, he, -, -, hown, -, hb⟩ := h
  obtain ⟨g, rfl, hB, -⟩ := own_head (hown h0) (by
    intro h1
    have h2 := congrArg List.length h1
    rw [layPrg.length] at h2
    have : layPrg.size = 3 := rfl
    rw [this] at h2
    simp at h2; omega)
  exact ⟨g, c3, he, hB, Mine.of_own (hown h0), OwnP.cap (hown h0), hb⟩
set_option maxHeartbeats 8000000 in
theorem put_any (l : List Prg) (p : Prg) (a : Option Addr) (n c : Nat) (w : World) (hn : l.length = n) (hl : n ≤ 1000000) (hc : a = none → c = 0) (hnc : n ≤ c) (hr : LRow layPrg w a l) :
    Calls Try.prog 22 #[.slice a n c, p.agg] w (RetRowP w (putF l p)) := by
  obtain ⟨p0, p1, p2⟩ := p
  have HB0 : Hid (Below w.heap.size w (w.alloc (.cells #[.int .i64 p0, .int .i64 p1, .int .i64 p2] 39))) := mid_alloc' (Below.refl _ _)
  have HX0 : Hid (Box (w.alloc (.cells #[.int .i64 p0, .int .i64 p1, .int .i64 p2] 39)) w.heap.size [.int .i64 p0, .int .i64 p1, .int .i64 p2]) := Box.of_alloc (w := w) (cs := [.int .i64 p0, .int .i64 p1, .int .i64 p2]) (t := 39) (Below.refl _ _)
  have HCL := Lib.hid (fun w' (hb : Below w.heap.size w w') => clonePrg l a n c w' hn (by show n * 24 ≤ _; omega) (by unfold maxLen; omega) hc hnc (LRow.below hr hb))
  have HO := Lib.hid (fun w' => of_any p0 w')
  have HXF := Lib.hid (fun a3 c3 g w' (hr3 : LRow layPrg w' a3 l) (hg : w'.cell? ⟨g, 0, none⟩ = some (.int .i64 p0)) => indexFuncPrg l a3 l.length c3 46 #[.pointer (some ⟨g, 0, none⟩)] (fun x => decide (x.node = p0)) w' rfl (by unfold maxLen; omega) hr3 enter_ofc (fun x _ w'' hb2 => (ofc_any x g p0 w'' (cell_next hb2 hg)).mono fun _ _ h => h))
  have HWY := Lib.hid (idxL_ways (fun x : Prg => decide (x.node = p0)) l)
  obtain ⟨q, hq⟩ : ∃ q, idxL (fun x : Prg => decide (x.node = p0)) l = q := ⟨_, rfl⟩
  rw [hq] at HXF HWY
  obtain ⟨r, hrr⟩ : ∃ r, putF l ⟨p0, p1, p2⟩ = r := ⟨_, rfl⟩
  rw [hrr]
  have HLN : Hid (l.length = n) := hn
  rcases HWY.out with ⟨h1, h2⟩ | ⟨k, hk, h1, h2, h3⟩
  · have er : r = l ++ [⟨p0, p1, p2⟩] := by rw [← hrr]; exact putF_none (fun x hx => of_decide_eq_false (h2 x hx))
    clear hrr hq h2 hr hn HWY hc hnc
    subst h1 er
    go_enter Try.func22, Try.ntmps22
    go_wp2_with (first
      | (have hgq := HCAN4; clear hgq; at_builtin; (refine wpList_can el_prg rfl (.tmp 21) (.tmp 23) rfl (w.heap.size + 1) a3 l.length c3 (l.flatMap layPrg.cells) rfl (HCAN4.out.alloc _) (some ⟨w4.heap.size, 0, none⟩) 1 1 [.int .i64 p0, .int .i64 p1, .int .i64 p2] rfl rfl (Row.new _ _ _ _) (by simp [Value.oneCell']) (by have := HLN.out; omega) (Nat.le_trans (HX4.out.lt (by simp)) (by simp)) ?_); intro a6 c6 w6 hcan6 _ hb6 _; have HCAN6 := Lib.hid hcan6; have HB6 := Lib.hid (HB4.out.trans (((Below.refl w.heap.size w4).alloc HB4.out.size _).trans (hb6.mono (Nat.le_succ _)))); clear hcan6 hb6)
      | (have hgq := HOC; clear hgq; go_at_call 35; ((with_reducible refine (HXF.out _ _ _ _ HCAN3.out.row HOC.out).mono ?_); rintro e w4 ⟨rfl, hb⟩; have HCAN4 := Lib.hid (HCAN3.out.next' hb); have HB4 := Lib.hid (HB3.out.trans (hb.mono HB3.out.size)); have HX4 := Lib.hid (HX3.out.next (by simp) hb); have k0 := HX4.out.cell (j := 0) rfl; have k1 := HX4.out.cell (j := 1) rfl; have k2 := HX4.out.cell (j := 2) rfl; clear hb))
      | (have hgq := HCAN2; clear hgq; go_at_call 36; ((with_reducible refine (HO.out _).mono ?_); rintro e w3 ⟨rfl, hw⟩; have hbz : Below w2.heap.size w2 w3 := by { rw [hw]; exact (Below.refl _ _).alloc (Nat.le_refl _) _ }; have HOC : Hid (w3.cell? ⟨w2.heap.size, 0, none⟩ = some (.int .i64 p0)) := by { show _ = _; rw [hw]; simp }; have HCAN3 := Lib.hid (HCAN2.out.next' hbz); have HB3 := Lib.hid (HB2.out.trans (hbz.mono HB2.out.size)); have HX3 := Lib.hid (HX2.out.next (by simp) hbz); clear hw hbz j0))
      | (go_at_call 37; ((with_reducible refine (HCL.out _ HB0.out).mono ?_); rintro e w2 ⟨a3, c3, rfl, hnear, hcan, hown, hlt, hb⟩; rw [World.size_alloc] at hcan hown; have HOWN2 := Lib.hid hown; have HCAN2 := Lib.hid hcan; have HB2 := Lib.hid (HB0.out.trans (hb.mono HB0.out.size)); have HX2 := Lib.hid (HX0.out.next (by simp) hb); have j0 := HX2.out.cell (j := 0) rfl; clear hnear hcan hown hlt hb)))
    go_ret
    exact ⟨a6, c6, by rw [List.length_append]; rfl, by (show Row _ _ _); rw [List.flatMap_append]; exact HCAN6.out.row, HB6.out, by rw [List.length_append]; exact HCAN6.out.le⟩
  · have er : r = l.set k ⟨p0, p1, p2⟩ := by rw [← hrr]; exact putF_at hk (of_decide_eq_true h2) (fun j hj hjk => of_decide_eq_false (h3 j hj hjk))
    have HCM := Lib.hid (fun w' (hb : Below w.heap.size w w') => (HCL.out w' hb).mono (fun _ _ h => cloneMine (show 0 < l.length by omega) h))
    have hkn : (k : Int) < (l.length : Int) := by omega
    have hk0 : (0 : Int) ≤ (k : Int) := by omega
    have HKL := Lib.hid hk
    clear hrr hq h2 h3 hr hn HWY hc hnc HCL
    subst h1 er
    go_enter Try.func22, Try.ntmps22
    go_wp2_with (first
      | (have hgq := HM4; clear hgq; refine wpList_store_mine layPrg rfl (.tmp 19) (.tmp 18) rfl (o := 0) HM4.out k HKL.out ⟨p0, p1, p2⟩ (by rw [Nat.zero_add]; rfl) rfl ?_; intro w6 hm6 hb6 hs6; have HM6 := Lib.hid hm6; have HB6 := Lib.hid (HB4.out.trans (hb6 w.heap.size (Nat.le_of_lt HGB.out))); clear hm6 hb6 hs6)
      | (have hgq := HOC; clear hgq; go_at_call 35; ((with_reducible refine (HXF.out _ _ _ _ HM3.out.row HOC.out).mono ?_); rintro e w4 ⟨rfl, hb⟩; have HM4 := Lib.hid (HM3.out.below hb (HM3.out.lt HNE.out)); have HB4 := Lib.hid (HB3.out.trans (hb.mono HB3.out.size)); have HX4 := Lib.hid (HX3.out.next (by simp) hb); have k0 := HX4.out.cell (j := 0) rfl; have k1 := HX4.out.cell (j := 1) rfl; have k2 := HX4.out.cell (j := 2) rfl; clear hb))
      | (have hgq := HM2; clear hgq; go_at_call 36; ((with_reducible refine (HO.out _).mono ?_); rintro e w3 ⟨rfl, hw⟩; have hbz : Below w2.heap.size w2 w3 := by { rw [hw]; exact (Below.refl _ _).alloc (Nat.le_refl _) _ }; have HOC : Hid (w3.cell? ⟨w2.heap.size, 0, none⟩ = some (.int .i64 p0)) := by { show _ = _; rw [hw]; simp }; have HNE : Hid (l ≠ []) := by { intro h0; have := HKL.out; rw [h0] at this; exact absurd this (Nat.not_lt_zero _) }; have HM3 := Lib.hid (HM2.out.below hbz (HM2.out.lt HNE.out)); have HB3 := Lib.hid (HB2.out.trans (hbz.mono HB2.out.size)); have HX3 := Lib.hid (HX2.out.next (by simp) hbz); clear hw hbz j0))
      | (go_at_call 37; ((with_reducible refine (HCM.out _ HB0.out).mono ?_); rintro e w2 ⟨g, c3, rfl, hg, hm, hlc, hb⟩; rw [World.size_alloc] at hg hm; have HM2 := Lib.hid hm; have HGB : Hid (w.heap.size < g) := hg; have HLC := Lib.hid hlc; have HB2 := Lib.hid (HB0.out.trans (hb.mono HB0.out.size)); have HX2 := Lib.hid (HX0.out.next (by simp) hb); have j0 := HX2.out.cell (j := 0) rfl; clear hg hm hlc hb)))
    go_ret
    exact ⟨some ⟨g, 0, none⟩, c3, by rw [List.length_set]; rfl, HM6.out.row, HB6.out, by rw [List.length_set]; exact HLC.out⟩
end Go.Proofs.Ytmihgdjnjfjjcaa
