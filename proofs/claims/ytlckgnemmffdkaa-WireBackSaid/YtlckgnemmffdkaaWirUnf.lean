import Derived.Test.YtlckgnemmffdkaaPackWireMessage1
import Derived.Laws.IdiomStrings
import Derived.Laws.BytesArg
import Derived.Deep.RegionHeld3
import Derived.Deep.Cut
set_option linter.unusedVariables false
set_option linter.unusedSimpArgs false
/- What begins any bytes: the program's Unframe. -/
namespace Go.Proofs.Ytlckgnemmffdkaa
open Go.ChangeShapes Go.WideShapes Go.ChangeAt Go.RowKit
set_option maxRecDepth 100000

theorem conv_bytes {a : Option Addr} {l : List UInt8} {n c : Nat} {w : World} (hr : RowB w a l) (hn : l.length = n) : (convert 22 9 (.slice a n c)).run Try.prog w = .ok (.string ⟨l.toArray⟩) w := by
  subst hn
  cases a with
  | none =>
    have h0 : l = [] := by
      rcases hr with h | ⟨b, o, h, _⟩
      · simpa using h
      · cases h
    subst h0
    exact run_convert_bytes_nil (w := w) 22 5 Try.underlying22 Try.underlying5 _ _ 9 Try.underlying9
  | some ad =>
    refine run_convert_bytes_back w 22 9 5 ad c l Try.underlying22 Try.underlying5 Try.underlying9 fun j hj => ?_
    exact hr.holds j _ (by rw [List.getElem?_map, List.getElem?_eq_getElem hj]; rfl)
def unframeL (l : List UInt8) : List UInt8 × Int × Int :=
  if l.length < 8 then ([], 0, 50)
  else if 65536 < beVal (l.take 4) ∨ l.length - 8 < beVal (l.take 4) then ([], 0, 50)
  else if beN 4 (sumMore 0 ((l.drop 8).take (beVal (l.take 4)))) ≠ (l.drop 4).take 4 then ([], 0, 50)
  else ((l.drop 8).take (beVal (l.take 4)), 8 + beVal (l.take 4), 0)
def RetUn (w : World) (r : List UInt8 × Int × Int) (e : Ending) (w' : World) : Prop := ∃ a c, e = .returned (.tuple #[.slice a r.1.length c, .int .i64 r.2.1, .int .i64 r.2.2]) ∧ RowB w' a r.1 ∧ Below w.heap.size w w'
theorem or_step32 {v : Nat} (x : UInt8) (h : v < 16777216) : bits .or .u32 ((v : Int) * 256) ((x.toNat : Int) % 4294967296) = ((v * 256 + x.toNat : Nat) : Int) := by
  have hx := x.toNat_lt
  have e3 : (x.toNat : Int) % 4294967296 = x.toNat := by omega
  rw [e3]
  have e := u32_or_nat (v * 256) x.toNat (by omega) (by omega)
  have e2 : v * 256 ||| x.toNat = v * 256 + x.toNat := by
    have := Nat.shiftLeft_add_eq_or_of_lt (i := 8) (b := x.toNat) (by omega) v
    rw [Nat.shiftLeft_eq] at this
    simpa using this.symm
  rw [e2] at e
  rw [← e]; norm_cast
theorem beVal_take {l : List UInt8} {k : Nat} (h : k < l.length) : beVal (l.take (k + 1)) = beVal (l.take k) * 256 + l[k].toNat := by
  rw [List.take_succ_eq_append_getElem h, beVal_snoc]
theorem unframe_short (a : Option Addr) (l : List UInt8) (n c : Nat) (w : World) (hn : l.length = n) (hl : n < 8) :
    Calls Try.prog 12 #[.slice a n c] w (RetUn w ([], 0, 50)) := by
  have d1 : decide ((n : Int) < 8) = true := decide_eq_true (by omega)
  go_enter Try.func12, Try.ntmps12
  go_wp2
  exact bodyPost_ret (v := .tuple #[.slice none 0 0, .int .i64 0, .int .i64 50]) (by simp [results, Try.results12, go_sem]) rfl ⟨none, 0, rfl, .inl rfl, Below.refl _ _⟩
set_option maxHeartbeats 2000000 in
theorem unframe_more (b o : Nat) (l : List UInt8) (n c : Nat) (w : World) (hn : l.length = n) (hnc : n ≤ c) (hl : 8 ≤ n) (hl2 : n ≤ 200000) (hr : RowB w (some ⟨b, o, none⟩) l) (hc : ∀ k (h : k < l.length), w.cell? ⟨b, o + k, none⟩ = some (B l[k])) :
    Calls Try.prog 12 #[.slice (some ⟨b, o, none⟩) n c] w (RetUn w (unframeL l)) := by
  subst hn
  have d1 : decide ((l.length : Int) < 8) = false := decide_eq_false (by omega)
  have HC := Lib.hid hc
  clear hc
  go_enter Try.func12, Try.ntmps12
  go_wp2
  go_loop [5, 7, 14] (fun v _ i => ∃ k : Nat, k ≤ 4 ∧ i = .int .i64 k ∧ v = .int .u32 (beVal (l.take k) : Nat)) (fun _ _ i => 4 - (intOf i).toNat)
  case atStart => exact ⟨0, by omega, rfl, rfl⟩
  case round =>
    obtain ⟨k, hk, rfl, rfl⟩ := hrel
    by_cases hlt : k < 4
    · have hcell := HC.out k (by omega)
      have hv := beVal_lt (l.take k)
      have hlt2 : beVal (l.take k) < 16777216 := by
        refine Nat.lt_of_lt_of_le hv ?_
        rw [List.length_take, Nat.min_eq_left (by omega)]
        have : 256 ^ k ≤ 256 ^ 3 := Nat.pow_le_pow_right (by decide) (by omega)
        omega
      have HS := Lib.hid (beVal_take (l := l) (k := k) (by omega))
      have HO := Lib.hid (or_step32 l[k] hlt2)
      clear hv
      generalize l[k] = x at hcell HS HO
      generalize beVal (l.take k) = v at hlt2 HS HO ⊢
      go_wp2
      exact ⟨⟨k + 1, by omega, by go_num, by rw [HO.out, HS.out]⟩, by simp [intOf]; omega⟩
    · obtain rfl : k = 4 := by omega
      have hN := beVal_lt (l.take 4)
      rw [List.length_take, Nat.min_eq_left (by omega)] at hN
      have hN2 : beVal (l.take 4) < 4294967296 := hN
      clear hN
      have HU : Hid (unframeL l = (if 65536 < beVal (l.take 4) ∨ l.length - 8 < beVal (l.take 4) then ([], 0, 50)
          else if beN 4 (sumMore 0 ((l.drop 8).take (beVal (l.take 4)))) ≠ (l.drop 4).take 4 then ([], 0, 50)
          else ((l.drop 8).take (beVal (l.take 4)), 8 + (beVal (l.take 4) : Int), 0) : List UInt8 × Int × Int)) := by
        show unframeL l = _
        unfold unframeL; rw [if_neg (by omega)]
      generalize beVal (l.take 4) = N at hN2 HU
      by_cases g1 : 65536 < N
      · have d2 : decide ((65536 : Int) < (N : Int)) = true := decide_eq_true (by omega)
        have HO : Hid (unframeL l = ([], 0, 50)) := by show _ = _; rw [HU.out, if_pos (.inl g1)]
        go_wp2
        exact bodyPost_ret (v := .tuple #[.slice none 0 0, .int .i64 0, .int .i64 50]) (by simp [results, Try.results12, go_sem]) rfl (by rw [HO.out]; exact ⟨none, 0, rfl, .inl rfl, Below.refl _ _⟩)
      have d2 : decide ((65536 : Int) < (N : Int)) = false := decide_eq_false (by omega)
      by_cases g2 : l.length - 8 < N
      · have d3 : decide ((l.length : Int) - 8 < (N : Int)) = true := decide_eq_true (by omega)
        have HO : Hid (unframeL l = ([], 0, 50)) := by show _ = _; rw [HU.out, if_pos (.inr g2)]
        go_wp2
        exact bodyPost_ret (v := .tuple #[.slice none 0 0, .int .i64 0, .int .i64 50]) (by simp [results, Try.results12, go_sem]) rfl (by rw [HO.out]; exact ⟨none, 0, rfl, .inl rfl, Below.refl _ _⟩)
      have d3 : decide ((l.length : Int) - 8 < (N : Int)) = false := decide_eq_false (by omega)
      have hD0 : ((l.drop 8).take N).length = N := by rw [List.length_take, List.length_drop]; omega
      have hH0 : ((l.drop 4).take 4).length = 4 := by rw [List.length_take, List.length_drop]; omega
      have hrH : RowB w (some ⟨b, o + 4, none⟩) ((l.drop 4).take 4) := by
        have := (Row.drop hr 4).take 4
        rw [← List.map_drop, ← List.map_take] at this; exact this
      have hrD : RowB w (some ⟨b, o + 8, none⟩) ((l.drop 8).take N) := by
        have := (Row.drop hr 8).take N
        rw [← List.map_drop, ← List.map_take] at this; exact this
      have HE8 : Hid (N = 0 → (l.drop 8).take N = []) := fun h => by rw [h, List.take_zero]
      rw [if_neg (by omega)] at HU
      generalize (l.drop 8).take N = D at HU hD0 hrD HE8
      generalize hH : (l.drop 4).take 4 = H at HU hH0 hrH
      obtain ⟨M, hM⟩ : ∃ M, sumMore 0 D = M := ⟨_, rfl⟩
      have HM := Lib.hid hM
      have HML : Hid (M < 4294967296) := by show _ < _; rw [← hM]; exact sumMore_lt 0 D
      rw [hM] at HU
      obtain ⟨X, hX⟩ : ∃ X, beN 4 M = X := ⟨_, rfl⟩
      have HX := Lib.hid hX
      rw [hX] at HU
      have HY : Hid (X = H → unframeL l = (D, 8 + (N : Int), 0)) := fun h => by rw [HU.out, if_neg (by simpa using h)]
      have HN : Hid (X ≠ H → unframeL l = ([], 0, 50)) := fun h => by rw [HU.out, if_pos h]
      have HCV : Hid (∀ w', Below w.heap.size w w' → (convert 22 9 (.slice (some ⟨b, o + 4, none⟩) 4 (c - 4))).run Try.prog w' = .ok (.string ⟨H.toArray⟩) w') := fun w' hb => conv_bytes (hrH.below hb) hH0
      have HDL : Hid (D.length = N) := hD0
      clear hX hM hH HU hH0 hrH
      have h8c : (8 : Int) ≤ (c : Int) := by omega
      have hc4 : ¬ c = 4 := by omega
      by_cases g3 : c = 8
      · obtain rfl : N = 0 := by omega
        have hD1 : D = [] := HE8.out rfl
        subst hD1
        subst g3
        have HCV2 : Hid (∀ w', Below w.heap.size w w' → (convert 22 9 (.slice (some ⟨b, o + 4, none⟩) 4 4)).run Try.prog w' = .ok (.string ⟨H.toArray⟩) w') := HCV.out
        have HRD : Hid (RowB w (some ⟨b, o, none⟩) []) := .inl rfl
        by_cases g4 : X = H
        · have g5 := g4.symm
          clear g4
          subst g5
          have HOY := Lib.hid (HY.out rfl)
          go_upto_region 12 with (fail)
          refine wp_region_held_drew (S := (fun w' => (convert 22 9 (.slice (some ⟨b, o + 4, none⟩) 4 4)).run Try.prog w' = .ok (.string ⟨H.toArray⟩) w')) (by kernel_rfl) (HCV2.out _ (Below.refl _ _).drew) (fun hHeld => ?_)
          refine wpAnyH_take (i := 0) (oi := _) (v := ?v0_1) rfl (by kernel_rfl) (by kernel_rfl) (by kernel_rfl) (fun _ _ _ h => h) (Or.inl ⟨by rfl, ?hy0_1⟩) (by assumption) ?rest0_1
          case hy0_1 =>
            intro w hSw
            (try dsimp only at hSw)
            go_simp
            rfl
          case' rest0_1 => try simp only [Act.put, List.setIfInBounds_toArray, List.set_cons_zero, List.set_cons_succ, List.getElem_toArray, List.getElem_cons_zero, List.getElem_cons_succ]
          refine wpAnyH_take (i := 4) (oi := _) (v := ?v4_2) rfl (by kernel_rfl) (by kernel_rfl) (by kernel_rfl) (fun _ _ _ h => h) (Or.inl ⟨by rfl, ?hy4_2⟩) (by assumption) ?rest4_2
          case hy4_2 =>
            intro w hSw
            (try dsimp only at hSw)
            go_simp
            rfl
          case' rest4_2 => try simp only [Act.put, List.setIfInBounds_toArray, List.set_cons_zero, List.set_cons_succ, List.getElem_toArray, List.getElem_cons_zero, List.getElem_cons_succ]
          refine wpAnyH_take (i := 5) (oi := _) (v := ?v5_3) rfl (by kernel_rfl) (by kernel_rfl) (by kernel_rfl) (fun _ _ _ h => h) (Or.inl ⟨by rfl, ?hy5_3⟩) (by assumption) ?rest5_3
          case hy5_3 =>
            intro w hSw
            (try dsimp only at hSw)
            go_simp
            rfl
          case' rest5_3 => try simp only [Act.put, List.setIfInBounds_toArray, List.set_cons_zero, List.set_cons_succ, List.getElem_toArray, List.getElem_cons_zero, List.getElem_cons_succ]
          refine wpAnyH_take (i := 6) (oi := _) (v := ?v6_4) rfl (by kernel_rfl) (by kernel_rfl) (by kernel_rfl) (fun _ _ _ h => h) (Or.inl ⟨by rfl, ?hy6_4⟩) (by assumption) ?rest6_4
          case hy6_4 =>
            intro w hSw
            (try dsimp only at hSw)
            go_simp
            rfl
          case' rest6_4 => try simp only [Act.put, List.setIfInBounds_toArray, List.set_cons_zero, List.set_cons_succ, List.getElem_toArray, List.getElem_cons_zero, List.getElem_cons_succ]
          refine wpAnyH_ready (rs := [1]) (by kernel_rfl) (by simp) ?_
          refine AllReadyH.cons (o := _) rfl (fun K hK => ?_) AllReadyH.nil
          go_simp
          go_at_call 41
          with_reducible refine (sum_any (some ⟨b, o, none⟩) [] 0 0 w.drew HDL.out (le_maxLen (by omega)) (HRD.out.drew)).mono ?_
          rintro e w' ⟨rfl, rfl⟩
          rw [HM.out]
          clear hHeld
          refine hK.out _ _ (HCV2.out _ (Below.refl _ _).drew) (fun hHeld => ?_)
          clear hK K
          try simp only [Act.put, List.setIfInBounds_toArray, List.set_cons_zero, List.set_cons_succ, List.getElem_toArray, List.getElem_cons_zero, List.getElem_cons_succ]
          refine wpAnyH_ready (rs := [2]) (by kernel_rfl) (by simp) ?_
          refine AllReadyH.cons (o := _) rfl (fun K hK => ?_) AllReadyH.nil
          go_simp
          go_at_call 40
          with_reducible refine (four_any M w.drew HML.out).mono ?_
          rintro e w4 ⟨a4, rfl, hr4, hb4⟩
          have hb4' : Below w.heap.size w w4 := ⟨hb4.os, hb4.tape, hb4.output, hb4.size, hb4.block⟩
          clear hb4
          have HR4 := Lib.hid hr4
          have HB4 := Lib.hid hb4'
          clear hr4
          clear hHeld
          refine hK.out _ _ (HCV2.out _ HB4.out) (fun hHeld => ?_)
          clear hK K
          try simp only [Act.put, List.setIfInBounds_toArray, List.set_cons_zero, List.set_cons_succ, List.getElem_toArray, List.getElem_cons_zero, List.getElem_cons_succ]
          refine wpAnyH_ready (rs := [3]) (by kernel_rfl) (by simp) ?_
          refine AllReadyH.cons (o := _) rfl (fun K hK => ?_) AllReadyH.nil
          have hcv := conv_bytes (n := 4) (c := 4) HR4.out (beN_length 4 M)
          rw [HX.out] at hcv
          go_simp
          clear hcv
          clear hHeld
          refine hK.out _ _ (HCV2.out _ HB4.out) (fun hHeld => ?_)
          clear hK K
          try simp only [Act.put, List.setIfInBounds_toArray, List.set_cons_zero, List.set_cons_succ, List.getElem_toArray, List.getElem_cons_zero, List.getElem_cons_succ]
          refine wpAnyH_take (i := 7) (oi := _) (v := ?v7_5) rfl (by kernel_rfl) (by kernel_rfl) (by kernel_rfl) (fun _ _ _ h => h) (Or.inl ⟨by rfl, ?hy7_5⟩) (by assumption) ?rest7_5
          case hy7_5 =>
            intro w hSw
            (try dsimp only at hSw)
            go_simp
            rfl
          case' rest7_5 => try simp only [Act.put, List.setIfInBounds_toArray, List.set_cons_zero, List.set_cons_succ, List.getElem_toArray, List.getElem_cons_zero, List.getElem_cons_succ]
          refine wpAnyH_done (by kernel_rfl) ?_ _
          clear hHeld
          go_wp2_with (at_builtin; (refine wpList_can el_bytes rfl (.const (.slice none 0 0)) (.tmp 47) rfl w4.heap.size none 0 0 [] rfl (Can.nil _ _ _ _) (some ⟨b, o, none⟩) 0 0 (([] : List UInt8).map B) rfl (by rw [List.length_map, HDL.out, Nat.mul_one]) (HRD.out.below HB4.out) (bytes_one _) (by omega) (Nat.le_refl _) ?_); intro a6 c6 w6 hcan6 _ hb6 _; have HCAN6 := Lib.hid hcan6; have HB6 := Lib.hid (HB4.out.trans (hb6.mono HB4.out.size)); clear hcan6 hb6)
          exact bodyPost_ret (v := .tuple #[.slice none 0 0, .int .i64 8, .int .i64 0]) (by simp [results, Try.results12, go_sem]) rfl (by rw [HOY.out]; exact ⟨none, 0, rfl, .inl rfl, HB6.out⟩)
        · have n3 : (X == H) = false := by simpa using g4
          have HON := Lib.hid (HN.out g4)
          go_upto_region 12 with (fail)
          refine wp_region_held_drew (S := (fun w' => (convert 22 9 (.slice (some ⟨b, o + 4, none⟩) 4 4)).run Try.prog w' = .ok (.string ⟨H.toArray⟩) w')) (by kernel_rfl) (HCV2.out _ (Below.refl _ _).drew) (fun hHeld => ?_)
          refine wpAnyH_take (i := 0) (oi := _) (v := ?v0_6) rfl (by kernel_rfl) (by kernel_rfl) (by kernel_rfl) (fun _ _ _ h => h) (Or.inl ⟨by rfl, ?hy0_6⟩) (by assumption) ?rest0_6
          case hy0_6 =>
            intro w hSw
            (try dsimp only at hSw)
            go_simp
            rfl
          case' rest0_6 => try simp only [Act.put, List.setIfInBounds_toArray, List.set_cons_zero, List.set_cons_succ, List.getElem_toArray, List.getElem_cons_zero, List.getElem_cons_succ]
          refine wpAnyH_take (i := 4) (oi := _) (v := ?v4_7) rfl (by kernel_rfl) (by kernel_rfl) (by kernel_rfl) (fun _ _ _ h => h) (Or.inl ⟨by rfl, ?hy4_7⟩) (by assumption) ?rest4_7
          case hy4_7 =>
            intro w hSw
            (try dsimp only at hSw)
            go_simp
            rfl
          case' rest4_7 => try simp only [Act.put, List.setIfInBounds_toArray, List.set_cons_zero, List.set_cons_succ, List.getElem_toArray, List.getElem_cons_zero, List.getElem_cons_succ]
          refine wpAnyH_take (i := 5) (oi := _) (v := ?v5_8) rfl (by kernel_rfl) (by kernel_rfl) (by kernel_rfl) (fun _ _ _ h => h) (Or.inl ⟨by rfl, ?hy5_8⟩) (by assumption) ?rest5_8
          case hy5_8 =>
            intro w hSw
            (try dsimp only at hSw)
            go_simp
            rfl
          case' rest5_8 => try simp only [Act.put, List.setIfInBounds_toArray, List.set_cons_zero, List.set_cons_succ, List.getElem_toArray, List.getElem_cons_zero, List.getElem_cons_succ]
          refine wpAnyH_take (i := 6) (oi := _) (v := ?v6_9) rfl (by kernel_rfl) (by kernel_rfl) (by kernel_rfl) (fun _ _ _ h => h) (Or.inl ⟨by rfl, ?hy6_9⟩) (by assumption) ?rest6_9
          case hy6_9 =>
            intro w hSw
            (try dsimp only at hSw)
            go_simp
            rfl
          case' rest6_9 => try simp only [Act.put, List.setIfInBounds_toArray, List.set_cons_zero, List.set_cons_succ, List.getElem_toArray, List.getElem_cons_zero, List.getElem_cons_succ]
          refine wpAnyH_ready (rs := [1]) (by kernel_rfl) (by simp) ?_
          refine AllReadyH.cons (o := _) rfl (fun K hK => ?_) AllReadyH.nil
          go_simp
          go_at_call 41
          with_reducible refine (sum_any (some ⟨b, o, none⟩) [] 0 0 w.drew HDL.out (le_maxLen (by omega)) (HRD.out.drew)).mono ?_
          rintro e w' ⟨rfl, rfl⟩
          rw [HM.out]
          clear hHeld
          refine hK.out _ _ (HCV2.out _ (Below.refl _ _).drew) (fun hHeld => ?_)
          clear hK K
          try simp only [Act.put, List.setIfInBounds_toArray, List.set_cons_zero, List.set_cons_succ, List.getElem_toArray, List.getElem_cons_zero, List.getElem_cons_succ]
          refine wpAnyH_ready (rs := [2]) (by kernel_rfl) (by simp) ?_
          refine AllReadyH.cons (o := _) rfl (fun K hK => ?_) AllReadyH.nil
          go_simp
          go_at_call 40
          with_reducible refine (four_any M w.drew HML.out).mono ?_
          rintro e w4 ⟨a4, rfl, hr4, hb4⟩
          have hb4' : Below w.heap.size w w4 := ⟨hb4.os, hb4.tape, hb4.output, hb4.size, hb4.block⟩
          clear hb4
          have HR4 := Lib.hid hr4
          have HB4 := Lib.hid hb4'
          clear hr4
          clear hHeld
          refine hK.out _ _ (HCV2.out _ HB4.out) (fun hHeld => ?_)
          clear hK K
          try simp only [Act.put, List.setIfInBounds_toArray, List.set_cons_zero, List.set_cons_succ, List.getElem_toArray, List.getElem_cons_zero, List.getElem_cons_succ]
          refine wpAnyH_ready (rs := [3]) (by kernel_rfl) (by simp) ?_
          refine AllReadyH.cons (o := _) rfl (fun K hK => ?_) AllReadyH.nil
          have hcv := conv_bytes (n := 4) (c := 4) HR4.out (beN_length 4 M)
          rw [HX.out] at hcv
          go_simp
          clear hcv
          clear hHeld
          refine hK.out _ _ (HCV2.out _ HB4.out) (fun hHeld => ?_)
          clear hK K
          try simp only [Act.put, List.setIfInBounds_toArray, List.set_cons_zero, List.set_cons_succ, List.getElem_toArray, List.getElem_cons_zero, List.getElem_cons_succ]
          refine wpAnyH_take (i := 7) (oi := _) (v := ?v7_10) rfl (by kernel_rfl) (by kernel_rfl) (by kernel_rfl) (fun _ _ _ h => h) (Or.inl ⟨by rfl, ?hy7_10⟩) (by assumption) ?rest7_10
          case hy7_10 =>
            intro w hSw
            (try dsimp only at hSw)
            go_simp
            rfl
          case' rest7_10 => try simp only [Act.put, List.setIfInBounds_toArray, List.set_cons_zero, List.set_cons_succ, List.getElem_toArray, List.getElem_cons_zero, List.getElem_cons_succ]
          refine wpAnyH_done (by kernel_rfl) ?_ _
          clear hHeld
          go_wp2_with fail
          refine bodyPost_ret (v := .tuple #[.slice none 0 0, .int .i64 0, .int .i64 50]) (by simp [results, Try.results12, go_sem]) rfl ?_
          rw [HON.out]
          exact ⟨none, 0, rfl, .inl rfl, HB4.out⟩
      · skip
        have HRD : Hid (RowB w (some ⟨b, o + 8, none⟩) D) := hrD
        by_cases g4 : X = H
        · have g5 := g4.symm
          clear g4
          subst g5
          have HOY := Lib.hid (HY.out rfl)
          go_upto_region 12 with (fail)
          refine wp_region_held_drew (S := (fun w' => (convert 22 9 (.slice (some ⟨b, o + 4, none⟩) 4 (c - 4))).run Try.prog w' = .ok (.string ⟨H.toArray⟩) w')) (by kernel_rfl) (HCV.out _ (Below.refl _ _).drew) (fun hHeld => ?_)
          refine wpAnyH_take (i := 0) (oi := _) (v := ?v0_11) rfl (by kernel_rfl) (by kernel_rfl) (by kernel_rfl) (fun _ _ _ h => h) (Or.inl ⟨by rfl, ?hy0_11⟩) (by assumption) ?rest0_11
          case hy0_11 =>
            intro w hSw
            (try dsimp only at hSw)
            go_simp
            rfl
          case' rest0_11 => try simp only [Act.put, List.setIfInBounds_toArray, List.set_cons_zero, List.set_cons_succ, List.getElem_toArray, List.getElem_cons_zero, List.getElem_cons_succ]
          refine wpAnyH_take (i := 4) (oi := _) (v := ?v4_12) rfl (by kernel_rfl) (by kernel_rfl) (by kernel_rfl) (fun _ _ _ h => h) (Or.inl ⟨by rfl, ?hy4_12⟩) (by assumption) ?rest4_12
          case hy4_12 =>
            intro w hSw
            (try dsimp only at hSw)
            go_simp
            rfl
          case' rest4_12 => try simp only [Act.put, List.setIfInBounds_toArray, List.set_cons_zero, List.set_cons_succ, List.getElem_toArray, List.getElem_cons_zero, List.getElem_cons_succ]
          refine wpAnyH_take (i := 5) (oi := _) (v := ?v5_13) rfl (by kernel_rfl) (by kernel_rfl) (by kernel_rfl) (fun _ _ _ h => h) (Or.inl ⟨by rfl, ?hy5_13⟩) (by assumption) ?rest5_13
          case hy5_13 =>
            intro w hSw
            (try dsimp only at hSw)
            go_simp
            rfl
          case' rest5_13 => try simp only [Act.put, List.setIfInBounds_toArray, List.set_cons_zero, List.set_cons_succ, List.getElem_toArray, List.getElem_cons_zero, List.getElem_cons_succ]
          refine wpAnyH_take (i := 6) (oi := _) (v := ?v6_14) rfl (by kernel_rfl) (by kernel_rfl) (by kernel_rfl) (fun _ _ _ h => h) (Or.inl ⟨by rfl, ?hy6_14⟩) (by assumption) ?rest6_14
          case hy6_14 =>
            intro w hSw
            (try dsimp only at hSw)
            go_simp
            rfl
          case' rest6_14 => try simp only [Act.put, List.setIfInBounds_toArray, List.set_cons_zero, List.set_cons_succ, List.getElem_toArray, List.getElem_cons_zero, List.getElem_cons_succ]
          refine wpAnyH_ready (rs := [1]) (by kernel_rfl) (by simp) ?_
          refine AllReadyH.cons (o := _) rfl (fun K hK => ?_) AllReadyH.nil
          go_simp
          go_at_call 41
          with_reducible refine (sum_any (some ⟨b, o + 8, none⟩) D N (c - 8) w.drew HDL.out (le_maxLen (by omega)) (HRD.out.drew)).mono ?_
          rintro e w' ⟨rfl, rfl⟩
          rw [HM.out]
          clear hHeld
          refine hK.out _ _ (HCV.out _ (Below.refl _ _).drew) (fun hHeld => ?_)
          clear hK K
          try simp only [Act.put, List.setIfInBounds_toArray, List.set_cons_zero, List.set_cons_succ, List.getElem_toArray, List.getElem_cons_zero, List.getElem_cons_succ]
          refine wpAnyH_ready (rs := [2]) (by kernel_rfl) (by simp) ?_
          refine AllReadyH.cons (o := _) rfl (fun K hK => ?_) AllReadyH.nil
          go_simp
          go_at_call 40
          with_reducible refine (four_any M w.drew HML.out).mono ?_
          rintro e w4 ⟨a4, rfl, hr4, hb4⟩
          have hb4' : Below w.heap.size w w4 := ⟨hb4.os, hb4.tape, hb4.output, hb4.size, hb4.block⟩
          clear hb4
          have HR4 := Lib.hid hr4
          have HB4 := Lib.hid hb4'
          clear hr4
          clear hHeld
          refine hK.out _ _ (HCV.out _ HB4.out) (fun hHeld => ?_)
          clear hK K
          try simp only [Act.put, List.setIfInBounds_toArray, List.set_cons_zero, List.set_cons_succ, List.getElem_toArray, List.getElem_cons_zero, List.getElem_cons_succ]
          refine wpAnyH_ready (rs := [3]) (by kernel_rfl) (by simp) ?_
          refine AllReadyH.cons (o := _) rfl (fun K hK => ?_) AllReadyH.nil
          have hcv := conv_bytes (n := 4) (c := 4) HR4.out (beN_length 4 M)
          rw [HX.out] at hcv
          go_simp
          clear hcv
          clear hHeld
          refine hK.out _ _ (HCV.out _ HB4.out) (fun hHeld => ?_)
          clear hK K
          try simp only [Act.put, List.setIfInBounds_toArray, List.set_cons_zero, List.set_cons_succ, List.getElem_toArray, List.getElem_cons_zero, List.getElem_cons_succ]
          refine wpAnyH_take (i := 7) (oi := _) (v := ?v7_15) rfl (by kernel_rfl) (by kernel_rfl) (by kernel_rfl) (fun _ _ _ h => h) (Or.inl ⟨by rfl, ?hy7_15⟩) (by assumption) ?rest7_15
          case hy7_15 =>
            intro w hSw
            (try dsimp only at hSw)
            go_simp
            rfl
          case' rest7_15 => try simp only [Act.put, List.setIfInBounds_toArray, List.set_cons_zero, List.set_cons_succ, List.getElem_toArray, List.getElem_cons_zero, List.getElem_cons_succ]
          refine wpAnyH_done (by kernel_rfl) ?_ _
          clear hHeld
          go_wp2_with (at_builtin; (refine wpList_can el_bytes rfl (.const (.slice none 0 0)) (.tmp 47) rfl w4.heap.size none 0 0 [] rfl (Can.nil _ _ _ _) (some ⟨b, o + 8, none⟩) N (c - 8) ((D : List UInt8).map B) rfl (by rw [List.length_map, HDL.out, Nat.mul_one]) (HRD.out.below HB4.out) (bytes_one _) (by omega) (Nat.le_refl _) ?_); intro a6 c6 w6 hcan6 _ hb6 _; have HCAN6 := Lib.hid hcan6; have HB6 := Lib.hid (HB4.out.trans (hb6.mono HB4.out.size)); clear hcan6 hb6)
          refine bodyPost_ret (v := .tuple #[.slice a6 N c6, .int .i64 (8 + (N : Int)), .int .i64 0]) (by simp [results, Try.results12, go_sem]) rfl ?_
          rw [HOY.out]
          refine ⟨a6, c6, ?_, ?_, HB6.out⟩
          · show Ending.returned (.tuple #[.slice a6 N c6, .int .i64 (8 + (N : Int)), .int .i64 0]) = Ending.returned (.tuple #[.slice a6 (D : List UInt8).length c6, .int .i64 (8 + (N : Int)), .int .i64 0])
            rw [HDL.out]
          · have h6 := HCAN6.out.row
            exact h6
        · have n3 : (X == H) = false := by simpa using g4
          have HON := Lib.hid (HN.out g4)
          go_upto_region 12 with (fail)
          refine wp_region_held_drew (S := (fun w' => (convert 22 9 (.slice (some ⟨b, o + 4, none⟩) 4 (c - 4))).run Try.prog w' = .ok (.string ⟨H.toArray⟩) w')) (by kernel_rfl) (HCV.out _ (Below.refl _ _).drew) (fun hHeld => ?_)
          refine wpAnyH_take (i := 0) (oi := _) (v := ?v0_16) rfl (by kernel_rfl) (by kernel_rfl) (by kernel_rfl) (fun _ _ _ h => h) (Or.inl ⟨by rfl, ?hy0_16⟩) (by assumption) ?rest0_16
          case hy0_16 =>
            intro w hSw
            (try dsimp only at hSw)
            go_simp
            rfl
          case' rest0_16 => try simp only [Act.put, List.setIfInBounds_toArray, List.set_cons_zero, List.set_cons_succ, List.getElem_toArray, List.getElem_cons_zero, List.getElem_cons_succ]
          refine wpAnyH_take (i := 4) (oi := _) (v := ?v4_17) rfl (by kernel_rfl) (by kernel_rfl) (by kernel_rfl) (fun _ _ _ h => h) (Or.inl ⟨by rfl, ?hy4_17⟩) (by assumption) ?rest4_17
          case hy4_17 =>
            intro w hSw
            (try dsimp only at hSw)
            go_simp
            rfl
          case' rest4_17 => try simp only [Act.put, List.setIfInBounds_toArray, List.set_cons_zero, List.set_cons_succ, List.getElem_toArray, List.getElem_cons_zero, List.getElem_cons_succ]
          refine wpAnyH_take (i := 5) (oi := _) (v := ?v5_18) rfl (by kernel_rfl) (by kernel_rfl) (by kernel_rfl) (fun _ _ _ h => h) (Or.inl ⟨by rfl, ?hy5_18⟩) (by assumption) ?rest5_18
          case hy5_18 =>
            intro w hSw
            (try dsimp only at hSw)
            go_simp
            rfl
          case' rest5_18 => try simp only [Act.put, List.setIfInBounds_toArray, List.set_cons_zero, List.set_cons_succ, List.getElem_toArray, List.getElem_cons_zero, List.getElem_cons_succ]
          refine wpAnyH_take (i := 6) (oi := _) (v := ?v6_19) rfl (by kernel_rfl) (by kernel_rfl) (by kernel_rfl) (fun _ _ _ h => h) (Or.inl ⟨by rfl, ?hy6_19⟩) (by assumption) ?rest6_19
          case hy6_19 =>
            intro w hSw
            (try dsimp only at hSw)
            go_simp
            rfl
          case' rest6_19 => try simp only [Act.put, List.setIfInBounds_toArray, List.set_cons_zero, List.set_cons_succ, List.getElem_toArray, List.getElem_cons_zero, List.getElem_cons_succ]
          refine wpAnyH_ready (rs := [1]) (by kernel_rfl) (by simp) ?_
          refine AllReadyH.cons (o := _) rfl (fun K hK => ?_) AllReadyH.nil
          go_simp
          go_at_call 41
          with_reducible refine (sum_any (some ⟨b, o + 8, none⟩) D N (c - 8) w.drew HDL.out (le_maxLen (by omega)) (HRD.out.drew)).mono ?_
          rintro e w' ⟨rfl, rfl⟩
          rw [HM.out]
          clear hHeld
          refine hK.out _ _ (HCV.out _ (Below.refl _ _).drew) (fun hHeld => ?_)
          clear hK K
          try simp only [Act.put, List.setIfInBounds_toArray, List.set_cons_zero, List.set_cons_succ, List.getElem_toArray, List.getElem_cons_zero, List.getElem_cons_succ]
          refine wpAnyH_ready (rs := [2]) (by kernel_rfl) (by simp) ?_
          refine AllReadyH.cons (o := _) rfl (fun K hK => ?_) AllReadyH.nil
          go_simp
          go_at_call 40
          with_reducible refine (four_any M w.drew HML.out).mono ?_
          rintro e w4 ⟨a4, rfl, hr4, hb4⟩
          have hb4' : Below w.heap.size w w4 := ⟨hb4.os, hb4.tape, hb4.output, hb4.size, hb4.block⟩
          clear hb4
          have HR4 := Lib.hid hr4
          have HB4 := Lib.hid hb4'
          clear hr4
          clear hHeld
          refine hK.out _ _ (HCV.out _ HB4.out) (fun hHeld => ?_)
          clear hK K
          try simp only [Act.put, List.setIfInBounds_toArray, List.set_cons_zero, List.set_cons_succ, List.getElem_toArray, List.getElem_cons_zero, List.getElem_cons_succ]
          refine wpAnyH_ready (rs := [3]) (by kernel_rfl) (by simp) ?_
          refine AllReadyH.cons (o := _) rfl (fun K hK => ?_) AllReadyH.nil
          have hcv := conv_bytes (n := 4) (c := 4) HR4.out (beN_length 4 M)
          rw [HX.out] at hcv
          go_simp
          clear hcv
          clear hHeld
          refine hK.out _ _ (HCV.out _ HB4.out) (fun hHeld => ?_)
          clear hK K
          try simp only [Act.put, List.setIfInBounds_toArray, List.set_cons_zero, List.set_cons_succ, List.getElem_toArray, List.getElem_cons_zero, List.getElem_cons_succ]
          refine wpAnyH_take (i := 7) (oi := _) (v := ?v7_20) rfl (by kernel_rfl) (by kernel_rfl) (by kernel_rfl) (fun _ _ _ h => h) (Or.inl ⟨by rfl, ?hy7_20⟩) (by assumption) ?rest7_20
          case hy7_20 =>
            intro w hSw
            (try dsimp only at hSw)
            go_simp
            rfl
          case' rest7_20 => try simp only [Act.put, List.setIfInBounds_toArray, List.set_cons_zero, List.set_cons_succ, List.getElem_toArray, List.getElem_cons_zero, List.getElem_cons_succ]
          refine wpAnyH_done (by kernel_rfl) ?_ _
          clear hHeld
          go_wp2_with fail
          refine bodyPost_ret (v := .tuple #[.slice none 0 0, .int .i64 0, .int .i64 50]) (by simp [results, Try.results12, go_sem]) rfl ?_
          rw [HON.out]
          exact ⟨none, 0, rfl, .inl rfl, HB4.out⟩
end Go.Proofs.Ytlckgnemmffdkaa
