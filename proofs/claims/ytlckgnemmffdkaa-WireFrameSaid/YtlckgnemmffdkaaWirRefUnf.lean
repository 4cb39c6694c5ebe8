/- What begins any bytes: the document's Unframe. -/
import Derived.Test.YtlckgnemmffdkaaWirUnf
namespace Go.Proofs.Ytlckgnemmffdkaa
open Go.ChangeShapes Go.WideShapes Go.ChangeAt Go.RowKit
set_option maxRecDepth 100000

theorem i64_or_nat (a b : Nat) (ha : a < 9223372036854775808) (hb : b < 9223372036854775808) : bits .or .i64 (a : Int) (b : Int) = ((a ||| b : Nat) : Int) := by
  have hx : a ||| b < 2 ^ 63 := Nat.or_lt_two_pow (by omega) (by omega)
  show IntKind.i64.wrap ((BitVec.ofInt 64 (a : Int) ||| BitVec.ofInt 64 (b : Int)).toNat : Int) = _
  rw [BitVec.toNat_or, ofInt_u64 a (by omega), ofInt_u64 b (by omega)]
  exact IntWalk.i64_in _ ⟨by omega, by omega⟩
theorem or_sum (p i a b : Nat) (hp : p = 2 ^ i) (h : b < p) : a * p ||| b = a * p + b := by
  subst hp
  have := Nat.shiftLeft_add_eq_or_of_lt h a
  rw [Nat.shiftLeft_eq] at this
  exact this.symm
theorem wrap_small (n : Int) (h : 0 ≤ n) (h2 : n < 4611686018427387904) : wrap64 n = n := by unfold wrap64; omega
theorem or_four_nat (a b c d : Nat) (h0 : a < 256) (h1 : b < 256) (h2 : c < 256) (h3 : d < 256) :
    bits .or .i64 (bits .or .i64 (bits .or .i64 ((a * 16777216 : Nat) : Int) ((b * 65536 : Nat) : Int)) ((c * 256 : Nat) : Int)) ((d : Nat) : Int) = ((((a * 256 + b) * 256 + c) * 256 + d : Nat) : Int) := by
  have e1 : a * 16777216 + b * 65536 = (a * 256 + b) * 65536 := by rw [Nat.add_mul, Nat.mul_assoc]
  have e2 : (a * 256 + b) * 65536 + c * 256 = ((a * 256 + b) * 256 + c) * 256 := by rw [Nat.add_mul ((a * 256 + b) * 256), Nat.mul_assoc]
  have l1 : b * 65536 < 16777216 := by omega
  have l2 : c * 256 < 65536 := by omega
  have l3 : a * 16777216 < 9223372036854775808 := Nat.lt_of_lt_of_le (Nat.mul_lt_mul_of_pos_right h0 (by decide)) (by decide)
  have m4 : a * 256 + b < 65536 := by clear e1 e2; omega
  have m5 : (a * 256 + b) * 256 + c < 16777216 := by clear e1 e2; omega
  have l4 : (a * 256 + b) * 65536 < 9223372036854775808 := Nat.lt_of_lt_of_le (Nat.mul_lt_mul_of_pos_right m4 (by decide)) (by decide)
  have l5 : ((a * 256 + b) * 256 + c) * 256 < 9223372036854775808 := Nat.lt_of_lt_of_le (Nat.mul_lt_mul_of_pos_right m5 (by decide)) (by decide)
  have o1 := or_sum 16777216 24 a (b * 65536) rfl l1
  have o2 := or_sum 65536 16 (a * 256 + b) (c * 256) rfl l2
  have o3 := or_sum 256 8 ((a * 256 + b) * 256 + c) d rfl h3
  rw [i64_or_nat _ _ l3 (Nat.lt_trans l1 (by decide)), o1, e1, i64_or_nat _ _ l4 (Nat.lt_trans l2 (by decide)), o2, e2, i64_or_nat _ _ l5 (Nat.lt_trans h3 (by decide)), o3]
theorem or_four (x0 x1 x2 x3 : UInt8) : bits .or .i64 (bits .or .i64 (bits .or .i64 (wrap64 (wrap64 (x0.toNat : Int) * 16777216)) (wrap64 (wrap64 (x1.toNat : Int) * 65536))) (wrap64 (wrap64 (x2.toNat : Int) * 256))) (wrap64 (x3.toNat : Int)) = ((beVal [x0, x1, x2, x3] : Nat) : Int) := by
  have h0 := x0.toNat_lt
  have h1 := x1.toNat_lt
  have h2 := x2.toNat_lt
  have h3 := x3.toNat_lt
  have w0 : wrap64 (wrap64 (x0.toNat : Int) * 16777216) = ((x0.toNat * 16777216 : Nat) : Int) := by rw [wrap_small (x0.toNat : Int) (by omega) (by omega), wrap_small _ (by omega) (by omega)]; exact (Int.natCast_mul _ _).symm
  have w1 : wrap64 (wrap64 (x1.toNat : Int) * 65536) = ((x1.toNat * 65536 : Nat) : Int) := by rw [wrap_small (x1.toNat : Int) (by omega) (by omega), wrap_small _ (by omega) (by omega)]; exact (Int.natCast_mul _ _).symm
  have w2 : wrap64 (wrap64 (x2.toNat : Int) * 256) = ((x2.toNat * 256 : Nat) : Int) := by rw [wrap_small (x2.toNat : Int) (by omega) (by omega), wrap_small _ (by omega) (by omega)]; exact (Int.natCast_mul _ _).symm
  have w3 : wrap64 (x3.toNat : Int) = ((x3.toNat : Nat) : Int) := wrap_small _ (by omega) (by omega)
  rw [w0, w1, w2, w3]
  clear w0 w1 w2 w3
  have hb : beVal [x0, x1, x2, x3] = ((x0.toNat * 256 + x1.toNat) * 256 + x2.toNat) * 256 + x3.toNat := by
    simp only [beVal, List.foldl_cons, List.foldl_nil, Nat.zero_mul, Nat.zero_add]
  rw [hb]
  clear hb
  generalize x0.toNat = a at *
  generalize x1.toNat = b at *
  generalize x2.toNat = c at *
  generalize x3.toNat = d at *
  exact or_four_nat a b c d h0 h1 h2 h3
theorem refunframe_short (a : Option Addr) (l : List UInt8) (n c : Nat) (w : World) (hn : l.length = n) (hl : n < 8) :
    Calls Try.prog 13 #[.slice a n c] w (RetUn w ([], 0, 50)) := by
  have d1 : decide ((n : Int) < 8) = true := decide_eq_true (by omega)
  go_enter Try.func13, Try.ntmps13
  go_wp2
  exact bodyPost_ret (v := .tuple #[.slice none 0 0, .int .i64 0, .int .i64 50]) (by simp [results, Try.results13, go_sem]) rfl ⟨none, 0, rfl, .inl rfl, Below.refl _ _⟩
set_option maxHeartbeats 2000000 in
theorem refunframe_more (b o : Nat) (l : List UInt8) (n c : Nat) (w : World) (hn : l.length = n) (hnc : n ≤ c) (hl : 8 ≤ n) (hl2 : n ≤ 200000) (hr : RowB w (some ⟨b, o, none⟩) l) (hc : ∀ k (h : k < l.length), w.cell? ⟨b, o + k, none⟩ = some (B l[k])) :
    Calls Try.prog 13 #[.slice (some ⟨b, o, none⟩) n c] w (RetUn w (unframeL l)) := by
  subst hn
  have d1 : decide ((l.length : Int) < 8) = false := decide_eq_false (by omega)
  have h0 := hc 0 (by omega)
  have h1 := hc 1 (by omega)
  have h2 := hc 2 (by omega)
  have h3 := hc 3 (by omega)
  have l0 : (0 : Int) < (l.length : Int) := by omega
  have l1 : (1 : Int) < (l.length : Int) := by omega
  have l2 : (2 : Int) < (l.length : Int) := by omega
  have l3 : (3 : Int) < (l.length : Int) := by omega
  have HC := Lib.hid hc
  clear hc
  rw [Nat.add_zero] at h0
  have ht4 : l.take 4 = [l[0], l[1], l[2], l[3]] := by
    rw [List.take_succ_eq_append_getElem (by omega), List.take_succ_eq_append_getElem (by omega), List.take_succ_eq_append_getElem (by omega), List.take_succ_eq_append_getElem (by omega), List.take_zero]; rfl
  have hN : beVal (l.take 4) < 4294967296 := by
    have := beVal_lt (l.take 4)
    rw [List.length_take, Nat.min_eq_left (by omega)] at this
    exact this
  have HU : Hid (unframeL l = (if 65536 < beVal (l.take 4) ∨ l.length - 8 < beVal (l.take 4) then ([], 0, 50)
      else if beN 4 (sumMore 0 ((l.drop 8).take (beVal (l.take 4)))) ≠ (l.drop 4).take 4 then ([], 0, 50)
      else ((l.drop 8).take (beVal (l.take 4)), 8 + (beVal (l.take 4) : Int), 0) : List UInt8 × Int × Int)) := by
    show unframeL l = _
    unfold unframeL; rw [if_neg (by omega)]
  have HB4 : Hid (beN 4 (beVal (l.take 4)) = l.take 4) := by
    have := beN_beVal (l.take 4)
    rw [List.length_take, Nat.min_eq_left (by omega)] at this
    exact this
  have HOR := Lib.hid (or_four l[0] l[1] l[2] l[3])
  rw [← ht4] at HOR
  clear ht4
  generalize l[0] = x0 at h0 HOR
  generalize l[1] = x1 at h1 HOR
  generalize l[2] = x2 at h2 HOR
  generalize l[3] = x3 at h3 HOR
  go_enter Try.func13, Try.ntmps13
  go_upto_region 3 with (fail)
  go_quiet (fail)
  rw [HOR.out]
  clear HOR h0 h1 h2 h3
  generalize hNN : beVal (l.take 4) = N at hN HU HB4 ⊢
  have HB1 : Hid (Below w.heap.size w (w.drewN nq)) := below_drewN (Below.refl _ _) nq
  generalize w.drewN nq = w1 at HB1 ⊢
  by_cases g1 : 65536 < N
  · have d2 : decide ((65536 : Int) < (N : Int)) = true := decide_eq_true (by omega)
    have HO : Hid (unframeL l = ([], 0, 50)) := by show _ = _; rw [HU.out, if_pos (.inl g1)]
    go_wp2
    exact bodyPost_ret (v := .tuple #[.slice none 0 0, .int .i64 0, .int .i64 50]) (by simp [results, Try.results13, go_sem]) rfl (by rw [HO.out]; exact ⟨none, 0, rfl, .inl rfl, HB1.out⟩)
  have d2 : decide ((65536 : Int) < (N : Int)) = false := decide_eq_false (by omega)
  by_cases g2 : l.length - 8 < N
  · have d3 : decide ((l.length : Int) - 8 < (N : Int)) = true := decide_eq_true (by omega)
    have HO : Hid (unframeL l = ([], 0, 50)) := by show _ = _; rw [HU.out, if_pos (.inr g2)]
    go_wp2
    exact bodyPost_ret (v := .tuple #[.slice none 0 0, .int .i64 0, .int .i64 50]) (by simp [results, Try.results13, go_sem]) rfl (by rw [HO.out]; exact ⟨none, 0, rfl, .inl rfl, HB1.out⟩)
  have d3 : decide ((l.length : Int) - 8 < (N : Int)) = false := decide_eq_false (by omega)
  have hD0 : ((l.drop 8).take N).length = N := by rw [List.length_take, List.length_drop]; omega
  have hrD : RowB w (some ⟨b, o + 8, none⟩) ((l.drop 8).take N) := by
    have := (Row.drop hr 8).take N
    rw [← List.map_drop, ← List.map_take] at this; exact this
  have hH0 : ((l.drop 4).take 4).length = 4 := by rw [List.length_take, List.length_drop]; omega
  have hlx : l.take 8 = l.take 4 ++ (l.drop 4).take 4 := by
    have := List.take_add (l := l) (i := 4) (j := 4)
    simpa using this
  rw [if_neg (by omega)] at HU
  have HLG : ∀ k, k < 8 → l[k]? = (beN 4 N ++ (l.drop 4).take 4)[k]? := fun k hk => by
    rw [HB4.out, ← hlx, List.getElem?_take, if_pos hk]
  have HE8 : N = 0 → (l.drop 8).take N = [] := fun h => by rw [h, List.take_zero]
  generalize (l.drop 8).take N = D at HU hD0 hrD HE8
  generalize (l.drop 4).take 4 = H at HU hH0 HLG
  have hNB := beN_length 4 N
  have hMB := beN_length 4 (sumMore 0 D)
  have HFL : ∀ k, k < 8 → (frameL D)[k]? = (beN 4 N ++ beN 4 (sumMore 0 D))[k]? := fun k hk => by
    have e : frameL D = (beN 4 N ++ beN 4 (sumMore 0 D)) ++ D := by unfold frameL; rw [hD0]
    rw [e, List.getElem?_append_left (by rw [List.length_append]; omega)]
  have HBAD : Hid (∀ k, k < 8 → (frameL D)[k]? ≠ l[k]? → unframeL l = ([], 0, 50)) := fun k hk hne => by
    rw [HU.out, if_pos]
    intro e
    apply hne
    rw [HFL k hk, HLG k hk, e]
  have HGOOD : Hid ((∀ j, j < 8 → (frameL D)[j]? = l[j]?) → unframeL l = (D, 8 + (N : Int), 0)) := fun h => by
    rw [HU.out, if_neg]
    rw [Decidable.not_not]
    refine List.ext_getElem? fun j => ?_
    by_cases hj : j < 4
    · have h1 := h (4 + j) (by omega)
      rw [HFL _ (by omega), HLG _ (by omega), List.getElem?_append_right (by omega), List.getElem?_append_right (by omega), hNB, Nat.add_sub_cancel_left] at h1
      exact h1
    · rw [List.getElem?_eq_none (by omega), List.getElem?_eq_none (by omega)]
  have HDL : Hid (D.length = N) := hD0
  clear HFL HLG hNB hMB hH0 hlx hD0 HU HB4 hNN
  by_cases g3 : c = 8
  · obtain rfl : N = 0 := by omega
    have hD1 : D = [] := HE8 rfl
    subst hD1
    subst g3
    clear HE8
    have HRD : Hid (RowB w (some ⟨b, o, none⟩) []) := .inl rfl
    go_wp2_with (go_at_call 11; ((with_reducible refine (refframe_any (some ⟨b, o, none⟩) [] 0 0 w1 HDL.out (by omega) (HRD.out.below HB1.out)).mono ?_); rintro e w2 ⟨a2, c2, rfl, hr2, hb2⟩; have HR2 := Lib.hid hr2; have HB2 := Lib.hid (HB1.out.trans (hb2.mono HB1.out.size)); clear hr2 hb2))
    have hfl := frameL_length []
    rw [HDL.out] at hfl
    have HFLN := Lib.hid hfl
    go_loopw [8] (fun i wr => ∃ k : Nat, k ≤ 8 ∧ i = .int .i64 k ∧ Hid (∀ j, j < k → (frameL [])[j]? = l[j]?) ∧ Hid (Below w2.heap.size w2 wr)) (fun i _ => 8 - (intOf i).toNat)
    case atStart => exact ⟨0, by omega, rfl, fun j hj => absurd hj (by omega), Below.refl _ _⟩
    case round =>
      obtain ⟨k, hk, rfl, hj, hbr⟩ := hrel
      have HBR := Lib.hid (HB2.out.trans (hbr.out.mono HB2.out.size))
      by_cases hlt : k < 8
      · obtain ⟨b2, o2, rfl, hc2⟩ := Row.getBelow HR2.out (k := k) (x := B ((frameL [])[k]'(by omega))) (by rw [List.getElem?_map, List.getElem?_eq_getElem (by omega)]; rfl)
        obtain ⟨b3, o3, hb3, hc3⟩ := Row.getBelow hr (k := k) (x := B (l[k]'(by omega))) (by rw [List.getElem?_map, List.getElem?_eq_getElem (by omega)]; rfl)
        simp only [Option.some.injEq, Addr.mk.injEq, and_true] at hb3
        obtain ⟨rfl, rfl⟩ := hb3
        have c2' := hc2 wr hbr.out
        have c3' := hc3 wr HBR.out
        have HE : Hid ((frameL [])[k]? = some ((frameL [])[k]'(by omega)) ∧ l[k]? = some (l[k]'(by omega))) := ⟨List.getElem?_eq_getElem _, List.getElem?_eq_getElem _⟩
        clear hc2 hc3
        generalize (frameL [])[k]'(by omega) = y at c2' HE
        generalize l[k]'(by omega) = x at c3' HE
        have hk8 : (k : Int) < 8 := by omega
        have hkl : (k : Int) < (l.length : Int) := by omega
        have hkf : (k : Int) < ((frameL []).length : Int) := by omega
        by_cases hxy : y = x
        · subst hxy
          have HN1 : Hid (∀ j, j < k + 1 → (frameL [])[j]? = l[j]?) := fun j hj2 => by
            rcases Nat.lt_succ_iff_lt_or_eq.1 hj2 with h | rfl
            · exact hj.out j h
            · rw [HE.out.1, HE.out.2]
          go_upto_region 10 with (fail)
          go_quiet (fail)
          go_wp2_with fail
          go_roundw
          case rel => exact ⟨k + 1, by omega, by go_num, HN1.out, below_drewN hbr.out _⟩
          case measure => simp [intOf]; omega
        · have hne : ¬ ((y.toNat : Int) = (x.toNat : Int)) := fun h => hxy (UInt8.toNat_inj.1 (by omega))
          have hne2 : ((y.toNat : Int) != (x.toNat : Int)) = true := by simpa using hne
          have hne3 : ((y.toNat : Int) == (x.toNat : Int)) = false := by simpa using hne
          have HO : Hid (unframeL l = ([], 0, 50)) := HBAD.out k hlt (by rw [HE.out.1, HE.out.2]; simpa using hxy)
          clear hxy
          go_upto_region 10 with (fail)
          go_quiet (fail)
          go_wp2_with fail
          exact bodyPost_ret (v := .tuple #[.slice none 0 0, .int .i64 0, .int .i64 50]) (by simp [results, Try.results13, go_sem]) rfl (by rw [HO.out]; exact ⟨none, 0, rfl, .inl rfl, below_drewN HBR.out _⟩)
      · obtain rfl : k = 8 := by omega
        clear hfl
        have HO := Lib.hid (HGOOD.out hj.out)
        go_wp2_with (at_builtin; (refine wpList_can el_bytes rfl (.tmp 65) (.tmp 69) rfl wr.heap.size none 0 0 [] rfl (Can.nil _ _ _ _) (some ⟨b, o, none⟩) 0 0 (([] : List UInt8).map B) rfl (by rw [List.length_map, HDL.out, Nat.mul_one]) (HRD.out.below HBR.out) (bytes_one _) (by omega) (Nat.le_refl _) ?_); intro a6 c6 w6 hcan6 _ hb6 _; have HCAN6 := Lib.hid hcan6; have HB6 := Lib.hid (HBR.out.trans (hb6.mono HBR.out.size)); clear hcan6 hb6)
        exact bodyPost_ret (v := .tuple #[.slice none 0 0, .int .i64 8, .int .i64 0]) (by simp [results, Try.results13, go_sem]) rfl (by rw [HO.out]; exact ⟨none, 0, rfl, .inl rfl, HB6.out⟩)
  · clear HE8
    have HRD : Hid (RowB w (some ⟨b, o + 8, none⟩) D) := hrD
    go_wp2_with (go_at_call 11; ((with_reducible refine (refframe_any (some ⟨b, o + 8, none⟩) D N (c - 8) w1 HDL.out (by omega) (HRD.out.below HB1.out)).mono ?_); rintro e w2 ⟨a2, c2, rfl, hr2, hb2⟩; have HR2 := Lib.hid hr2; have HB2 := Lib.hid (HB1.out.trans (hb2.mono HB1.out.size)); clear hr2 hb2))
    have hfl := frameL_length D
    rw [HDL.out] at hfl
    have HFLN := Lib.hid hfl
    go_loopw [8] (fun i wr => ∃ k : Nat, k ≤ 8 ∧ i = .int .i64 k ∧ Hid (∀ j, j < k → (frameL D)[j]? = l[j]?) ∧ Hid (Below w2.heap.size w2 wr)) (fun i _ => 8 - (intOf i).toNat)
    case atStart => exact ⟨0, by omega, rfl, fun j hj => absurd hj (by omega), Below.refl _ _⟩
    case round =>
      obtain ⟨k, hk, rfl, hj, hbr⟩ := hrel
      have HBR := Lib.hid (HB2.out.trans (hbr.out.mono HB2.out.size))
      by_cases hlt : k < 8
      · obtain ⟨b2, o2, rfl, hc2⟩ := Row.getBelow HR2.out (k := k) (x := B ((frameL D)[k]'(by omega))) (by rw [List.getElem?_map, List.getElem?_eq_getElem (by omega)]; rfl)
        obtain ⟨b3, o3, hb3, hc3⟩ := Row.getBelow hr (k := k) (x := B (l[k]'(by omega))) (by rw [List.getElem?_map, List.getElem?_eq_getElem (by omega)]; rfl)
        simp only [Option.some.injEq, Addr.mk.injEq, and_true] at hb3
        obtain ⟨rfl, rfl⟩ := hb3
        have c2' := hc2 wr hbr.out
        have c3' := hc3 wr HBR.out
        have HE : Hid ((frameL D)[k]? = some ((frameL D)[k]'(by omega)) ∧ l[k]? = some (l[k]'(by omega))) := ⟨List.getElem?_eq_getElem _, List.getElem?_eq_getElem _⟩
        clear hc2 hc3
        generalize (frameL D)[k]'(by omega) = y at c2' HE
        generalize l[k]'(by omega) = x at c3' HE
        have hk8 : (k : Int) < 8 := by omega
        have hkl : (k : Int) < (l.length : Int) := by omega
        have hkf : (k : Int) < ((frameL D).length : Int) := by omega
        by_cases hxy : y = x
        · subst hxy
          have HN1 : Hid (∀ j, j < k + 1 → (frameL D)[j]? = l[j]?) := fun j hj2 => by
            rcases Nat.lt_succ_iff_lt_or_eq.1 hj2 with h | rfl
            · exact hj.out j h
            · rw [HE.out.1, HE.out.2]
          go_upto_region 10 with (fail)
          go_quiet (fail)
          go_wp2_with fail
          go_roundw
          case rel => exact ⟨k + 1, by omega, by go_num, HN1.out, below_drewN hbr.out _⟩
          case measure => simp [intOf]; omega
        · have hne : ¬ ((y.toNat : Int) = (x.toNat : Int)) := fun h => hxy (UInt8.toNat_inj.1 (by omega))
          have hne2 : ((y.toNat : Int) != (x.toNat : Int)) = true := by simpa using hne
          have hne3 : ((y.toNat : Int) == (x.toNat : Int)) = false := by simpa using hne
          have HO : Hid (unframeL l = ([], 0, 50)) := HBAD.out k hlt (by rw [HE.out.1, HE.out.2]; simpa using hxy)
          clear hxy
          go_upto_region 10 with (fail)
          go_quiet (fail)
          go_wp2_with fail
          exact bodyPost_ret (v := .tuple #[.slice none 0 0, .int .i64 0, .int .i64 50]) (by simp [results, Try.results13, go_sem]) rfl (by rw [HO.out]; exact ⟨none, 0, rfl, .inl rfl, below_drewN HBR.out _⟩)
      · obtain rfl : k = 8 := by omega
        clear hfl
        have HO := Lib.hid (HGOOD.out hj.out)
        go_wp2_with (at_builtin; (refine wpList_can el_bytes rfl (.tmp 65) (.tmp 69) rfl wr.heap.size none 0 0 [] rfl (Can.nil _ _ _ _) (some ⟨b, o + 8, none⟩) (8 + N - 8) (c - 8) ((D : List UInt8).map B) rfl (by rw [List.length_map, HDL.out, Nat.mul_one]; omega) (HRD.out.below HBR.out) (bytes_one _) (by omega) (Nat.le_refl _) ?_); intro a6 c6 w6 hcan6 _ hb6 _; have HCAN6 := Lib.hid hcan6; have HB6 := Lib.hid (HBR.out.trans (hb6.mono HBR.out.size)); clear hcan6 hb6)
        refine bodyPost_ret (v := .tuple #[.slice a6 (0 + (8 + N - 8)) c6, .int .i64 (8 + (N : Int)), .int .i64 0]) (by simp [results, Try.results13, go_sem]) rfl ?_
        rw [HO.out]
        refine ⟨a6, c6, ?_, ?_, HB6.out⟩
        · show Ending.returned (.tuple #[.slice a6 (0 + (8 + N - 8)) c6, .int .i64 (8 + (N : Int)), .int .i64 0]) = Ending.returned (.tuple #[.slice a6 (D : List UInt8).length c6, .int .i64 (8 + (N : Int)), .int .i64 0])
          rw [HDL.out, Nat.zero_add, Nat.add_sub_cancel_left]
        · have h6 := HCAN6.out.row
          exact h6
end Go.Proofs.Ytlckgnemmffdkaa
