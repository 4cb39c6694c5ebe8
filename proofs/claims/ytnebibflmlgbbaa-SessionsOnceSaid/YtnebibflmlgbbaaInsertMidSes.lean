/- slices.Insert of one thing into the middle of a row of the call's own. -/
import Derived.Test.YtnebibflmlgbbaaInsertSes
namespace Go.Proofs.Ytnebibflmlgbbaa
open Go.ChangeShapes Go.WideShapes Go.ChangeAt Go.RowKit

theorem midSes_cells (xs : List Session) (x : Session) (i : Nat) : (xs.take i ++ x :: xs.drop i).flatMap (laySes).cells = (xs.take i).flatMap (laySes).cells ++ ((laySes).cells x ++ (xs.drop i).flatMap (laySes).cells) := by
  rw [List.flatMap_append, List.flatMap_cons]

set_option maxHeartbeats 4000000 in
/-- No room: a new row. -/
theorem insertGrowSes (xs : List Session) (x : Session) (i n c g : Nat) (vb : Nat) (te : TypeId) (B : Nat) (w : World) (hn : xs.length = n) (hi : i < n) (hc : c < n + 1) (hown : w.ownsRow B 44 (laySes).size (.slice (some ⟨g, 0, none⟩) n c) n (xs.flatMap (laySes).cells))
    (hv : w.heap[vb]? = some (.cells ((laySes).cells x).toArray te (0, 0))) (hby : (n + 1) * (laySes).bytes ≤ 140737488355328) (hB : B ≤ w.heap.size) :
    Calls Try.prog 26 #[.slice (some ⟨g, 0, none⟩) n c, .int .i64 i, .slice (some ⟨vb, 0, none⟩) 1 1] w (RetInsSes B w (xs.take i ++ x :: xs.drop i)) := by
  obtain ⟨hBg, hnc, hcm, hAl, D, hg, hCl⟩ := own_whole hown
  have hbp := (laySes).bpos
  have hsp := (laySes).pos
  have hn1 : n + 1 ≤ 140737488355328 := Nat.le_trans (Nat.le_mul_of_pos_right _ hbp) hby
  have hAB : xs.flatMap (laySes).cells = (xs.take i).flatMap (laySes).cells ++ (xs.drop i).flatMap (laySes).cells := by rw [← List.flatMap_append, List.take_append_drop]
  have hal : ((xs.take i).flatMap (laySes).cells).length = i * (laySes).size := by rw [(laySes).length, List.length_take]; congr 1; omega
  have hbl : ((xs.drop i).flatMap (laySes).cells).length = (n - i) * (laySes).size := by rw [(laySes).length, List.length_drop, hn]
  have hxl := (laySes).len x
  have h1x := (laySes).one x
  have h1b := (laySes).ones (xs.drop i)
  have hrl : (xs.take i ++ x :: xs.drop i).length = n + 1 := by simp; omega
  have hrc := midSes_cells xs x i
  generalize hR : (xs.take i ++ x :: xs.drop i) = res at hrl hrc ⊢
  generalize hxa : (xs.take i).flatMap (laySes).cells = A at hAB hal hrc
  generalize hxb : (xs.drop i).flatMap (laySes).cells = Bs at hAB hbl h1b hrc
  generalize hxc : (laySes).cells x = X at hv hxl h1x hrc
  rw [hAB] at hg
  have hcellg : ∀ j u, (A ++ Bs)[j]? = some u → w.cell? ⟨g, 0 + j, none⟩ = some u := fun j u hj => by
    have hlt := (List.getElem?_eq_some_iff.1 hj).1
    simp only [World.cell?, hg, Nat.zero_add, Option.isSome_none, Bool.false_eq_true, if_false]
    rw [List.getElem?_toArray, List.getElem?_append_left hlt, hj]
  have hgl : g < w.heap.size := (Array.getElem?_eq_some_iff.1 hg).1
  have hvl : vb < w.heap.size := (Array.getElem?_eq_some_iff.1 hv).1
  have hvc : ∀ j u, X[j]? = some u → w.cell? ⟨vb, 0 + j, none⟩ = some u := fun j u hj => by
    simp only [World.cell?, hv, Nat.zero_add, Option.isSome_none, Bool.false_eq_true, if_false]
    rw [List.getElem?_toArray, hj]
  obtain ⟨w1, g1, c1, Z, hrun, hg1, hc1, hcm1, hh1, hl1, hb1, hs1⟩ := run_append_zeros laySes Try.underlying22 Try.underlying3 22 w g 0 i c (n + 1 - i) A hal (fun j u hj => hcellg j u (by rw [List.getElem?_append_left (List.getElem?_eq_some_iff.1 hj).1]; exact hj)) (by omega) (by omega) (by rw [show i + (n + 1 - i) = n + 1 by omega]; exact hby)
  have hkk : (n : Int) + 1 - (i : Int) = ((n + 1 - i : Nat) : Int) := by omega
  rw [← hkk, show i + (n + 1 - i) = n + 1 by omega] at hrun
  rw [show i + (n + 1 - i) = n + 1 by omega] at hc1
  have hZl : Z.length + i * (laySes).size = c1 * (laySes).size := by rw [List.length_append, hal] at hl1; omega
  have hZ1 : (n + 1) * (laySes).size ≤ c1 * (laySes).size := Nat.mul_le_mul_right _ hc1
  have hni : (n + 1) * (laySes).size = i * (laySes).size + (laySes).size + (n - i) * (laySes).size := by rw [← Nat.succ_mul, ← Nat.add_mul]; congr 1; omega
  have hp1 : A ++ Z = A ++ (Z.take (laySes).size ++ Z.drop (laySes).size) := by rw [List.take_append_drop]
  rw [hp1] at hh1
  have hp2 : Z.drop (laySes).size = (Z.drop (laySes).size).take ((n - i) * (laySes).size) ++ (Z.drop (laySes).size).drop ((n - i) * (laySes).size) := by rw [List.take_append_drop]
  have hZa : (Z.take (laySes).size).length = X.length := by rw [List.length_take, hxl]; omega
  have hZb : ((Z.drop (laySes).size).take ((n - i) * (laySes).size)).length = Bs.length := by rw [List.length_take, List.length_drop, hbl]; omega
  have hZc : ((Z.drop (laySes).size).drop ((n - i) * (laySes).size)).length + (n + 1) * (laySes).size = c1 * (laySes).size := by rw [List.length_drop, List.length_drop]; omega
  rw [hp2] at hh1
  generalize Z.take (laySes).size = M1 at hh1 hZa
  generalize (Z.drop (laySes).size).take ((n - i) * (laySes).size) = M2 at hh1 hZb
  generalize (Z.drop (laySes).size).drop ((n - i) * (laySes).size) = R2 at hh1 hZc
  have hAX : (A ++ X).length = (i + 1) * (laySes).size := by rw [List.length_append, hal, hxl, Nat.succ_mul]
  have hcm1' := lt_maxLen hcm1
  have hcm' := lt_maxLen hcm
  have RUN := Lib.hid hrun
  have HH1 := Lib.hid hh1
  have HVC := Lib.hid (fun j u hj => ((hb1.cell (p := ⟨vb, 0 + j, none⟩) hvl).trans (hvc j u hj)))
  have HCG := Lib.hid (fun j u hj => ((hb1.cell (p := ⟨g, 0 + j, none⟩) hgl).trans (hcellg j u hj)))
  have hgg : g ≠ g1 := by omega
  have HMA := Lib.hid hZa
  have HMB := Lib.hid hZb
  have H1X := Lib.hid h1x
  have H1B := Lib.hid h1b
  have HAL := Lib.hid hal
  have HXL := Lib.hid hxl
  have HBL := Lib.hid hbl
  have HAX := Lib.hid hAX
  have HZC := Lib.hid hZc
  have HRC := Lib.hid hrc
  have HRL := Lib.hid hrl
  clear hp1 hp2 hl1 hcellg hvc hrun hkk hh1 hg hv hown hAB hxa hxb hxc hR hZa hZb h1x h1b hal hxl hbl hAX hZl hZ1 hni hZc hrc hrl hAl hCl
  have hg1' := Lib.hid hg1
  clear hg1
  have hc1i : ¬ c1 = i := by omega
  have hci : ¬ c = i := by omega
  have hin : ¬ (i : Int) = (n : Int) := by omega
  have hc1j : ¬ c1 = i + 1 := by omega
  have hw1 : IntKind.i64.wrap ((i : Int) + 1) = (i : Int) + 1 := IntWalk.i64_in _ ⟨by omega, by omega⟩
  have hb0 : (0 : Int) ≤ (i : Int) + 1 := by omega
  have htn : ((i : Int) + 1).toNat = i + 1 := by omega
  have hb3 : (i : Int) ≤ (n : Int) := by omega
  have hb4 : i ≤ n := by omega
  go_enter Try.func26, Try.ntmps26
  go_wp2_with (first
    | (at_builtin; refine Lib.wpList_append_run _ rfl (.tmp 34) (.tmp 39) _ _ rfl _ _ rfl rfl _ _ RUN.out ?_)
    | (refine wpList_copy_whole laySes Try.underlying22 rfl (.tmp 43) (.tmp 44) rfl g1 (i * (laySes).size) A M1 (M2 ++ R2) X 44 HH1.out HAL.out HMA.out H1X.out (n + 1 - i) (c1 - i) 1 1 1 ⟨vb, 0, none⟩ (Nat.min_eq_left (by omega)) (by rw [HXL.out, Nat.one_mul]) (fun j u hj => by rw [Addr.add_mid]; exact HVC.out j u hj) rfl rfl ?_; intro w2 hh2 hb2 ho2 hs2; have HH2 := Lib.hid hh2; have HB2 := Lib.hid hb2; have HO2 := Lib.hid ho2; clear hh2 hb2 ho2))
  go_still_tail 8, (by kernel_rfl)
  change wpList _ _ _ _ _ w2.drew
  have hd2 : Below w.heap.size w2 w2.drew := (Below.refl _ _).drew
  have HH3 : Hid (w2.drew.heap[g1]? = some (.cells (A ++ (X ++ (M2 ++ R2))).toArray 44 (0, 0))) := HH2.out
  have HCG3 : Hid (∀ j u, (A ++ Bs)[j]? = some u → w2.drew.cell? ⟨g, 0 + j, none⟩ = some u) := fun j u hj => by
    have : w2.drew.cell? ⟨g, 0 + j, none⟩ = w1.cell? ⟨g, 0 + j, none⟩ := World.cell?_of_block (w := w1) (HO2.out g hgg)
    rw [this]; exact HCG.out j u hj
  generalize w2.drew = w3 at hd2 HH3 HCG3 ⊢
  clear HH2 HO2
  refine wpList_copy_whole laySes Try.underlying22 rfl (.tmp 50) (.tmp 53) rfl g1 ((i + 1) * (laySes).size) (A ++ X) M2 R2 Bs 44 (by rw [List.append_assoc]; exact HH3.out) HAX.out HMB.out H1B.out (n - i) (c1 - (i + 1)) (n - i) (c - i) (n - i) ⟨g, i * (laySes).size, none⟩ (Nat.min_self _) HBL.out (fun j u hj => by
    rw [Addr.add_mid]
    have := HCG3.out (i * (laySes).size + j) u (by rw [List.getElem?_append_right (by rw [HAL.out]; omega), HAL.out, Nat.add_sub_cancel_left]; exact hj)
    rw [Nat.zero_add] at this; exact this) (by simp [Act.eval]; first | rfl | omega) rfl ?_
  intro w4 hh4 hb4 ho4 hs4
  have HH4 := Lib.hid hh4
  have HB4 := Lib.hid hb4
  clear hh4 hb4 ho4
  go_wp2
  go_returns
  have hfin : w4.heap[g1]? = some (.cells ((A ++ (X ++ Bs)) ++ R2).toArray 44 (0, 0)) := by rw [HH4.out]; congr 3; simp
  have hres : (A ++ (X ++ Bs)).length = (n + 1) * (laySes).size := by rw [← HRC.out, (laySes).length, HRL.out]
  refine ⟨some ⟨g1, 0, none⟩, c1, by rw [HRL.out]; rfl, ?_, ?_⟩
  · rw [HRL.out, HRC.out]
    exact own_of_whole (D := R2) (by rw [hg1'.out]; exact hB) hc1 hcm1 hres hfin (by rw [List.length_append, hres]; have := HZC.out; omega)
  · have q1 : Below B w w2 := (hb1.mono hB).trans (HB2.out B (by rw [hg1'.out]; exact hB))
    exact (q1.trans (hd2.mono hB)).trans (HB4.out B (by rw [hg1'.out]; exact hB))

set_option maxHeartbeats 4000000 in
set_option maxRecDepth 100000 in
/-- There is room: in place. -/
theorem insertShiftSes (xs : List Session) (x : Session) (i n c g : Nat) (vb : Nat) (te : TypeId) (B : Nat) (w : World) (hn : xs.length = n) (hi : i < n) (hc : n + 1 ≤ c) (hown : w.ownsRow B 44 (laySes).size (.slice (some ⟨g, 0, none⟩) n c) n (xs.flatMap (laySes).cells))
    (hv : w.heap[vb]? = some (.cells ((laySes).cells x).toArray te (0, 0))) (hne : vb ≠ g) (hby : (n + 1) * (laySes).bytes ≤ 140737488355328) :
    Calls Try.prog 26 #[.slice (some ⟨g, 0, none⟩) n c, .int .i64 i, .slice (some ⟨vb, 0, none⟩) 1 1] w (RetInsSes B w (xs.take i ++ x :: xs.drop i)) := by
  obtain ⟨hBg, hnc, hcm, hAl, D, hg, hCl⟩ := own_whole hown
  have hbp := (laySes).bpos
  have hsp := (laySes).pos
  have hn1 : n + 1 ≤ 140737488355328 := Nat.le_trans (Nat.le_mul_of_pos_right _ hbp) hby
  have hAB : xs.flatMap (laySes).cells = (xs.take i).flatMap (laySes).cells ++ (xs.drop i).flatMap (laySes).cells := by rw [← List.flatMap_append, List.take_append_drop]
  have hal : ((xs.take i).flatMap (laySes).cells).length = i * (laySes).size := by rw [(laySes).length, List.length_take]; congr 1; omega
  have hbl : ((xs.drop i).flatMap (laySes).cells).length = (n - i) * (laySes).size := by rw [(laySes).length, List.length_drop, hn]
  have hxl := (laySes).len x
  have h1x := (laySes).one x
  have h1b := (laySes).ones (xs.drop i)
  have hrl : (xs.take i ++ x :: xs.drop i).length = n + 1 := by simp; omega
  have hrc := midSes_cells xs x i
  have hov := fun (o lb cb : Nat) => overlapsSes_no w vb g o 1 1 lb cb te 44 _ _ hne hv hg (by
    rw [List.size_toArray, hCl]
    have := Nat.mul_pos (show 0 < c by omega) hsp
    omega)
  generalize hR : (xs.take i ++ x :: xs.drop i) = res at hrl hrc ⊢
  generalize hxa : (xs.take i).flatMap (laySes).cells = A at hAB hal hrc
  generalize hxb : (xs.drop i).flatMap (laySes).cells = Bs at hAB hbl h1b hrc
  generalize hxc : (laySes).cells x = X at hv hxl h1x hrc
  rw [hAB] at hg hCl
  have hvl : vb < w.heap.size := (Array.getElem?_eq_some_iff.1 hv).1
  have hvc : ∀ j u, X[j]? = some u → w.cell? ⟨vb, 0 + j, none⟩ = some u := fun j u hj => by
    simp only [World.cell?, hv, Nat.zero_add, Option.isSome_none, Bool.false_eq_true, if_false]
    rw [List.getElem?_toArray, hj]
  have hcellg : ∀ j u, (A ++ Bs)[j]? = some u → w.cell? ⟨g, 0 + j, none⟩ = some u := fun j u hj => by
    have hlt := (List.getElem?_eq_some_iff.1 hj).1
    simp only [World.cell?, hg, Nat.zero_add, Option.isSome_none, Bool.false_eq_true, if_false]
    rw [List.getElem?_toArray, List.getElem?_append_left hlt, hj]
  have hcs := Nat.mul_le_mul_right (laySes).size hc
  have hni : (n + 1) * (laySes).size = i * (laySes).size + (laySes).size + (n - i) * (laySes).size := by rw [← Nat.succ_mul, ← Nat.add_mul]; congr 1; omega
  have hi1 : (i + 1) * (laySes).size = i * (laySes).size + (laySes).size := Nat.succ_mul _ _
  have hT : Bs ++ D = (Bs ++ D).take (laySes).size ++ (((Bs ++ D).drop (laySes).size).take ((n - i) * (laySes).size) ++ ((Bs ++ D).drop (laySes).size).drop ((n - i) * (laySes).size)) := by rw [List.take_append_drop, List.take_append_drop]
  have hTl : (Bs ++ D).length + i * (laySes).size = c * (laySes).size := by rw [List.length_append, List.length_append, hal] at hCl; rw [List.length_append]; omega
  have hMa : ((Bs ++ D).take (laySes).size).length = X.length := by rw [List.length_take, hxl]; omega
  have hMb : (((Bs ++ D).drop (laySes).size).take ((n - i) * (laySes).size)).length = Bs.length := by rw [List.length_take, List.length_drop, hbl]; omega
  have hMc : (((Bs ++ D).drop (laySes).size).drop ((n - i) * (laySes).size)).length + (n + 1) * (laySes).size = c * (laySes).size := by rw [List.length_drop, List.length_drop]; omega
  rw [List.append_assoc, hT] at hg
  generalize (Bs ++ D).take (laySes).size = M1 at hg hMa
  generalize ((Bs ++ D).drop (laySes).size).take ((n - i) * (laySes).size) = M2 at hg hMb
  generalize ((Bs ++ D).drop (laySes).size).drop ((n - i) * (laySes).size) = R2 at hg hMc
  have hAM : (A ++ M1).length = (i + 1) * (laySes).size := by rw [List.length_append, hal, hMa, hxl, Nat.succ_mul]
  have hcm' := lt_maxLen hcm
  have HG := Lib.hid hg
  have HVC := Lib.hid hvc
  have HCG := Lib.hid hcellg
  have HMA := Lib.hid hMa
  have HMB := Lib.hid hMb
  have H1X := Lib.hid h1x
  have H1B := Lib.hid h1b
  have HAL := Lib.hid hal
  have HXL := Lib.hid hxl
  have HBL := Lib.hid hbl
  have HAM := Lib.hid hAM
  have HMC := Lib.hid hMc
  have HRC := Lib.hid hrc
  have HRL := Lib.hid hrl
  clear hT hTl hcellg hvc hg hv hown hAB hxa hxb hxc hR hMa hMb h1x h1b hal hxl hbl hAM hni hi1 hcs hMc hrc hrl hAl hCl
  have hci : ¬ c = i := by omega
  have hin : ¬ (i : Int) = (n : Int) := by omega
  have hcj : ¬ c = i + 1 := by omega
  have hw1 : IntKind.i64.wrap ((i : Int) + 1) = (i : Int) + 1 := IntWalk.i64_in _ ⟨by omega, by omega⟩
  have hb0 : (0 : Int) ≤ (i : Int) + 1 := by omega
  have htn : ((i : Int) + 1).toNat = i + 1 := by omega
  have hb3 : (i : Int) ≤ (n : Int) := by omega
  have hb4 : i ≤ n := by omega
  have hb5 : (i : Int) ≤ (n : Int) + 1 := by omega
  have hb6 : i ≤ n + 1 := by omega
  go_enter Try.func26, Try.ntmps26
  go_wp2_with (simp only [hov])
  go_still_tail 8, (by kernel_rfl)
  change wpList _ _ _ _ _ w.drew
  have hd2 : Below g w w.drew := (Below.refl _ _).drew
  have HG3 : Hid (w.drew.heap[g]? = some (.cells (A ++ (M1 ++ (M2 ++ R2))).toArray 44 (0, 0))) := HG.out
  have HCG3 : Hid (∀ j u, (A ++ Bs)[j]? = some u → w.drew.cell? ⟨g, 0 + j, none⟩ = some u) := HCG.out
  have HVC3 : Hid (∀ j u, X[j]? = some u → w.drew.cell? ⟨vb, 0 + j, none⟩ = some u) := HVC.out
  clear hov HG HCG HVC
  generalize w.drew = w3 at hd2 HG3 HCG3 HVC3 ⊢
  refine wpList_copy_whole laySes Try.underlying22 rfl (.tmp 73) (.tmp 76) rfl g ((i + 1) * (laySes).size) (A ++ M1) M2 R2 Bs 44 (by rw [List.append_assoc]; exact HG3.out) HAM.out HMB.out H1B.out (n - i) (c - (i + 1)) (n + 1 - i) (c - i) (n - i) ⟨g, i * (laySes).size, none⟩ (Nat.min_eq_right (by omega)) HBL.out (fun j u hj => by
    rw [Addr.add_mid]
    have := HCG3.out (i * (laySes).size + j) u (by rw [List.getElem?_append_right (by rw [HAL.out]; omega), HAL.out, Nat.add_sub_cancel_left]; exact hj)
    rw [Nat.zero_add] at this; exact this) (by simp [Act.eval]; first | rfl | omega) (by simp [Act.eval]; first | rfl | omega) ?_
  intro w4 hh4 hb4 ho4 hs4
  have HH4 : Hid (w4.heap[g]? = some (.cells (A ++ (M1 ++ (Bs ++ R2))).toArray 44 (0, 0))) := by show _ = _; rw [hh4, List.append_assoc]
  have HB4 := Lib.hid hb4
  have HVC4 : Hid (∀ j u, X[j]? = some u → w4.cell? ⟨vb, 0 + j, none⟩ = some u) := fun j u hj => by
    have : w4.cell? ⟨vb, 0 + j, none⟩ = w3.cell? ⟨vb, 0 + j, none⟩ := World.cell?_of_block (w := w3) (ho4 vb hne)
    rw [this]; exact HVC3.out j u hj
  clear hh4 hb4 ho4
  go_wp2_with (refine wpList_copy_whole laySes Try.underlying22 rfl (.tmp 80) (.tmp 81) rfl g (i * (laySes).size) A M1 (Bs ++ R2) X 44 HH4.out HAL.out HMA.out H1X.out (n + 1 - i) (c - i) 1 1 1 ⟨vb, 0, none⟩ (Nat.min_eq_left (by omega)) (by rw [HXL.out, Nat.one_mul]) (fun j u hj => by rw [Addr.add_mid]; exact HVC4.out j u hj) rfl rfl ?_; intro w5 hh5 hb5 ho5 hs5; have HH5 := Lib.hid hh5; have HB5 := Lib.hid hb5; clear hh5 hb5 ho5)
  go_returns
  have hfin : w5.heap[g]? = some (.cells ((A ++ (X ++ Bs)) ++ R2).toArray 44 (0, 0)) := by rw [HH5.out]; congr 3; simp
  have hres : (A ++ (X ++ Bs)).length = (n + 1) * (laySes).size := by rw [← HRC.out, (laySes).length, HRL.out]
  refine ⟨some ⟨g, 0, none⟩, c, by rw [HRL.out]; rfl, ?_, ?_⟩
  · rw [HRL.out, HRC.out]
    exact own_of_whole (D := R2) hBg hc hcm hres hfin (by rw [List.length_append, hres]; have := HMC.out; omega)
  · exact ((hd2.mono hBg).trans (HB4.out B hBg)).trans (HB5.out B hBg)

def RetInsNSes (B : Nat) (w : World) (m : Nat) (xs : List Session) (e : Ending) (w' : World) : Prop :=
  ∃ a' c', e = .returned (.slice a' m c') ∧ w'.ownsRow B 44 (laySes).size (.slice a' m c') m (xs.flatMap (laySes).cells) ∧ Below B w w'
/-- slices.Insert of one thing, wherever. -/
theorem insertSes (xs : List Session) (x : Session) (i n c : Nat) (a : Option Addr) (vb : Nat) (te : TypeId) (B : Nat) (w : World) (hn : xs.length = n) (hi : i ≤ n) (hcan : Can w B 44 (laySes).size a n c (xs.flatMap (laySes).cells))
    (hown : 0 < n → w.ownsRow B 44 (laySes).size (.slice a n c) n (xs.flatMap (laySes).cells)) (hv : w.heap[vb]? = some (.cells ((laySes).cells x).toArray te (0, 0))) (hne : ∀ b o s, a = some ⟨b, o, s⟩ → vb ≠ b) (hby : (n + 1) * (laySes).bytes ≤ 140737488355328) (hB : B ≤ w.heap.size) :
    Calls Try.prog 26 #[.slice a n c, .int .i64 i, .slice (some ⟨vb, 0, none⟩) 1 1] w (RetInsNSes B w (n + 1) (xs.take i ++ x :: xs.drop i)) := by
  have hlen : (xs.take i ++ x :: xs.drop i).length = n + 1 := by simp; omega
  have fin : ∀ e w', RetInsSes B w (xs.take i ++ x :: xs.drop i) e w' → RetInsNSes B w (n + 1) (xs.take i ++ x :: xs.drop i) e w' := fun e w' ⟨a', c', h1, h2, h3⟩ => by
    rw [hlen] at h1 h2
    exact ⟨a', c', h1, h2, h3⟩
  refine Calls.mono ?_ fin
  by_cases h : i = n
  · subst h
    have := insertEndSes xs x i c a vb te B w hn hcan hv hby hB
    rw [List.take_of_length_le (by omega), List.drop_of_length_le (by omega)]
    exact this
  · have ho := hown (by omega)
    obtain ⟨g, rfl, hBg, hcm⟩ := own_head ho (by intro h0; have := congrArg List.length h0; rw [(laySes).length, List.length_nil, Nat.mul_eq_zero] at this; have := (laySes).pos; omega)
    by_cases hc : c < n + 1
    · exact insertGrowSes xs x i n c g vb te B w hn (by omega) hc ho hv hby hB
    · exact insertShiftSes xs x i n c g vb te B w hn (by omega) (by omega) ho hv (hne g 0 none rfl) hby
end Go.Proofs.Ytnebibflmlgbbaa
