import Derived.Test.YtmihgdjnjfjjcaaPackFollowComes4
import Derived.Test.YtmihgdjnjfjjcaaPackFollowComes2
import Derived.Deep.CutRange
import Derived.Deep.CutBlock
set_option linter.unusedVariables false
set_option linter.unusedSimpArgs false
/- Up to where rows are committed, by the document (weirref11.Commit). -/
namespace Go.Proofs.Ytmihgdjnjfjjcaa
open Go.ChangeShapes Go.WideShapes Go.ChangeAt Go.RowKit
set_option maxRecDepth 100000

set_option maxHeartbeats 16000000 in
theorem refcommit_any (es : List RwE) (b t : Int) (a : Option Addr) (n c : Nat) (s : UInt8) (self term com : Int) (l : List Prg) (a2 : Option Addr) (n2 c2 : Nat) (w : World) (hn : es.length = n) (hl : n ≤ 1000000) (hr : Row w a (es.flatMap cellsRw)) (hn2 : l.length = n2) (hl2 : n2 ≤ 1000000) (hr2 : LRow layPrg w a2 l) (hcom : InI com) :
    Calls Try.prog 11 #[.agg #[.int .i64 b, .int .i64 t, .slice a n c], B s, .int .i64 self, .int .i64 term, .int .i64 com, .slice a2 n2 c2] w (RetII w (commitF b t (ents es) s.toNat self term com l)) := by
  have hlen : (ents es).length = n := by rw [← hn]; exact List.length_map _
  have HB0 : Hid (Below w.heap.size w (w.alloc (.cells #[.int .i64 b, .int .i64 t, .slice a n c] 24))) := mid_alloc' (Below.refl _ _)
  have HX0 : Hid (Box (w.alloc (.cells #[.int .i64 b, .int .i64 t, .slice a n c] 24)) w.heap.size [.int .i64 b, .int .i64 t, .slice a n c]) := Box.of_alloc (w := w) (cs := [.int .i64 b, .int .i64 t, .slice a n c]) (t := 24) (Below.refl _ _)
  have HC := Lib.hid (fun w' (hb : Below w.heap.size w w') => refcheck_any es b t a n c w' hn hl (hr.mono_below hb))
  have HLV := Lib.hid (fun w' (hb : Below w.heap.size w w') => refLast_any es b t a n c w' hn hl (hr.mono_below hb))
  have HTM := Lib.hid (fun i (hi : InI i) w' (hb : Below w.heap.size w w') => refTerm_any es b t a n c w' hn hl (hr.mono_below hb) i hi)
  have HF := Lib.hid (fun k w' (hb : Below w.heap.size w w') => reffind_any l a2 n2 c2 k w' hn2 hl2 (LRow.below hr2 hb))
  have HSM := Lib.hid (fun k w' h1 h2 => bit_any s k w' h1 h2)
  rcases hok : okR b t (ents es) with _ | _
  · rw [chk_not hok] at HC
    rw [commitF_not hok]
    clear hok hlen hr hn hr2 hn2 HLV HTM HF HSM
    go_enter Try.func11, Try.ntmps11
    go_wp2_with (go_at_call 12; ((with_reducible refine (HC.out _ HB0.out).mono ?_); rintro e w1 ⟨rfl, hb⟩; have HB1 := Lib.hid (HB0.out.trans (hb.mono HB0.out.size)); clear hb))
    go_ret2
    exact ⟨rfl, HB1.out⟩
  have hob := ok_bounds hok
  have hb1 : 0 ≤ b := hob.1
  have hb2 : b + (n : Int) ≤ 1099511627776 := by have := hob.2.2.1; rw [hlen] at this; exact this
  have hb3 : n ≤ 4096 := by have := hob.2.1; rw [hlen] at this; exact this
  rw [chk_ok hok] at HC
  rw [lastF_ok hok, hlen] at HLV
  generalize lastT t (ents es) = lt at HLV
  have HA := Lib.hid (fun h2 => commitF_arg (set := s.toNat) (self := self) (term := term) (com := com) (l := l) hok h2)
  have HG := Lib.hid (fun h2 => commitF_ok (set := s.toNat) (self := self) (term := term) (com := com) (l := l) hok h2)
  rw [hlen] at HA HG
  have HCR : Hid (comR b t (ents es) s.toNat self term com l = bestUp (comAt b t (ents es) s.toNat self term l) (max com b) com (b + (n : Int) - max com b).toNat) := by show _ = _; unfold comR; rw [hlen]
  have HCA : Hid (∀ i, comAt b t (ents es) s.toNat self term l i = (decide (termR b t (ents es) i = term) && decide (sizeS s.toNat 7 < 2 * cntS s.toNat self l i 7))) := fun i => rfl
  have HTF : Hid (∀ i, b ≤ i → i ≤ b + (n : Int) → termF b t (ents es) i = (termR b t (ents es) i, true)) := fun i h1 h2 => by
    unfold termF hasR; rw [if_pos ⟨hok, decide_eq_true ⟨h1, by rw [hlen]; exact h2⟩⟩]
  generalize commitF b t (ents es) s.toNat self term com l = r at HA HG ⊢
  generalize comR b t (ents es) s.toNat self term com l = cr at HG HCR
  generalize comAt b t (ents es) s.toNat self term l = ca at HCA HCR
  have HSS := Lib.hid (fun k => (show sizeS s.toNat (k + 1) = sizeS s.toNat k + (if inSet s.toNat (k + 1) then 1 else 0) from rfl))
  have HS0 : Hid (sizeS s.toNat 0 = 0) := rfl
  have HCN := Lib.hid (fun i k => (show cntS s.toNat self l i (k + 1) = cntS s.toNat self l i k + (if yesS s.toNat self l i (k + 1) then 1 else 0) from rfl))
  have HC0 : Hid (∀ i, cntS s.toNat self l i 0 = 0) := fun i => rfl
  unfold InI at hcom
  clear hok hlen hr hn hr2 hn2 hob
  go_enter Try.func11, Try.ntmps11
  go_wp2_with (first
    | (have hgq := HX1; clear hgq; go_at_call 13; ((with_reducible refine (HLV.out _ HB1.out).mono ?_); rintro e w2 ⟨rfl, hb⟩; have HX2 := Lib.hid (HX1.out.next (by simp) hb); have HB2 := Lib.hid (HB1.out.trans (hb.mono HB1.out.size)); clear hb))
    | (go_at_call 12; ((with_reducible refine (HC.out _ HB0.out).mono ?_); rintro e w1 ⟨rfl, hb⟩; have HX1 := Lib.hid (HX0.out.next (by simp) hb); have HB1 := Lib.hid (HB0.out.trans (hb.mono HB0.out.size)); clear hb; have k0 := HX1.out.cell (j := 0) rfl; have k1 := HX1.out.cell (j := 1) rfl; have k2 := HX1.out.cell (j := 2) rfl)))
  clear k0 k1 k2
  go_loopw [16, 17] (fun sv nn wr => ∃ (k N : Nat), 1 ≤ k ∧ k ≤ 8 ∧ nn = .int .i64 k ∧ sv = .int .i64 N ∧ Hid (sizeS s.toNat (k - 1) = N) ∧ N ≤ k - 1 ∧ Hid (Below w.heap.size w wr) ∧ Hid (Box wr w.heap.size [.int .i64 b, .int .i64 t, .slice a n c])) (fun _ nn _ => 8 - (intOf nn).toNat)
  case atStart => exact ⟨1, 0, by omega, by omega, rfl, rfl, HS0.out, by omega, HB2.out, HX2.out⟩
  case round =>
    clear HB0 HX0 HX1 HB1 HX2 HB2 HS0 HC HLV
    obtain ⟨k, N, hk1, hk8, rfl, rfl, HE, hN, HBL, HBX⟩ := hrel
    by_cases h7 : k ≤ 7
    · have HS := Lib.hid (fun w' => HSM.out k w' hk1 h7)
      have ek : k - 1 + 1 = k := by omega
      have HE2 := Lib.hid (HSS.out (k - 1))
      rw [ek, HE.out] at HE2
      clear HSM HF HSS HCN HC0 HA HG HCR HCA HTF HTM ek
      rcases hin : inSet s.toNat k with _ | _
      all_goals rw [hin] at HS HE2
      · go_wp2_with (go_at_call 33; ((with_reducible refine (HS.out _).mono ?_); rintro e w3 ⟨rfl, rfl⟩))
        go_roundw
        case rel => exact ⟨k + 1, N, by omega, by omega, by go_num, rfl, (by show sizeS _ (k + 1 - 1) = _; rw [Nat.add_sub_cancel, HE2.out]; simp), by omega, HBL.out, HBX.out⟩
        case measure => simp [intOf]; omega
      · go_wp2_with (go_at_call 33; ((with_reducible refine (HS.out _).mono ?_); rintro e w3 ⟨rfl, rfl⟩))
        go_roundw
        case rel => exact ⟨k + 1, N + 1, by omega, by omega, by go_num, by go_num, (by show sizeS _ (k + 1 - 1) = _; rw [Nat.add_sub_cancel, HE2.out]; simp), by omega, HBL.out, HBX.out⟩
        case measure => simp [intOf]; omega
    · obtain rfl : k = 8 := by omega
      have hE : sizeS s.toNat 7 = N := HE.out
      rw [hE] at HA HG HCA
      clear HE hE HSS
      have k0 := HBX.out.cell (j := 0) rfl
      have k1 := HBX.out.cell (j := 1) rfl
      have k2 := HBX.out.cell (j := 2) rfl
      rcases d1 : decide (com < 0) with _ | _
      rotate_left
      · obtain rfl := HA.out (.inl (of_decide_eq_true d1))
        go_wp2_with fail
        go_ret2
        exact ⟨rfl, HBL.out⟩
      rcases d2 : decide (b + (n : Int) < com) with _ | _
      rotate_left
      · obtain rfl := HA.out (.inr (.inl (of_decide_eq_true d2)))
        go_wp2_with fail
        go_ret2
        exact ⟨rfl, HBL.out⟩
      rcases d3 : decide (term < 1) with _ | _
      rotate_left
      · obtain rfl := HA.out (.inr (.inr (.inl (of_decide_eq_true d3))))
        go_wp2_with fail
        go_ret2
        exact ⟨rfl, HBL.out⟩
      rcases d4 : ((N : Int) == 0) with _ | _
      rotate_left
      · have h4 : N = 0 := by have : (N : Int) = 0 := by simpa using d4
                              omega
        obtain rfl := HA.out (.inr (.inr (.inr h4)))
        go_wp2_with fail
        go_ret2
        exact ⟨rfl, HBL.out⟩
      have h4 : 0 < N := by have : ¬ (N : Int) = 0 := by simpa using d4
                            omega
      obtain rfl := HG.out (by have := of_decide_eq_false d1; have := of_decide_eq_false d2; have := of_decide_eq_false d3; omega)
      have hc0 : 0 ≤ com := by have := of_decide_eq_false d1; omega
      have hcl : com ≤ b + (n : Int) := by have := of_decide_eq_false d2; omega
      clear HA HG
      obtain ⟨lo, hlo⟩ : ∃ lo, max com b = lo := ⟨_, rfl⟩
      have hlo1 : com ≤ lo := by omega
      have hlo2 : b ≤ lo := by omega
      have hlo3 : lo ≤ b + (n : Int) := by omega
      rw [hlo] at HCR
      obtain ⟨J, hJ⟩ : ∃ J, (b + (n : Int) - lo).toNat = J := ⟨_, rfl⟩
      rw [hJ] at HCR
      have hJ1 : lo + (J : Int) = b + (n : Int) := by omega
      have HLO : Hid (max com b = lo) := hlo
      have HJ1 := Lib.hid hJ1
      have hJ2 : lo + (J : Int) ≤ b + (n : Int) := by omega
      have hJ3 : b + (n : Int) ≤ lo + (J : Int) := by omega
      have HB0 : Hid (bestUp ca lo com 0 = com) := rfl
      have HBS := Lib.hid (fun j => (show bestUp ca lo com (j + 1) = if ca (lo + ((j + 1 : Nat) : Int)) then lo + ((j + 1 : Nat) : Int) else bestUp ca lo com j from rfl))
      have HEV : Hid (lo = if com < b then b else com) := by show _ = _; have := HLO.out; split <;> omega
      have HLJ : Hid (lo = lo) := rfl
      clear hlo hJ hJ1 d4
      go_upto_region 13 with fail
      go_cut [17, 19] from 34 to 63 (fun _ v wx => v = .int .i64 (lo + 1) ∧ wx = wr)
      case first =>
        rcases dm : decide (com < b) with _ | _
        · have hdm : ¬ com < b := of_decide_eq_false dm
          have HEQ : Hid (com = lo) := by have := HEV.out; rw [if_neg hdm] at this; exact this.symm
          go_wp2_with fail
          go_meet
          first | exact ⟨congrArg (Value.int .i64) (by have := HEQ.out; omega), rfl⟩ | ((repeat apply Exists.intro); exact ⟨⟨congrArg (Value.int .i64) (by have := HEQ.out; omega), rfl⟩, rfl⟩)
        · have hdm : com < b := of_decide_eq_true dm
          have HEQ : Hid (b = lo) := by have := HEV.out; rw [if_pos hdm] at this; exact this.symm
          go_wp2_with fail
          go_meet
          first | exact ⟨congrArg (Value.int .i64) (by have := HEQ.out; omega), rfl⟩ | ((repeat apply Exists.intro); exact ⟨⟨congrArg (Value.int .i64) (by have := HEQ.out; omega), rfl⟩, rfl⟩)
      obtain ⟨rfl, rfl⟩ := hcut
      clear HEV HLO HLJ
      go_wp2_with fail
      go_loopw [18, 19] (fun ov iv wr2 => ∃ j : Nat, j ≤ J ∧ iv = .int .i64 (lo + (j : Int) + 1) ∧ ov = .int .i64 (bestUp ca lo com j) ∧ Hid (Below w.heap.size w wr2) ∧ Hid (Box wr2 w.heap.size [.int .i64 b, .int .i64 t, .slice a n c])) (fun _ iv _ => (b + (n : Int) + 1 - intOf iv).toNat)
      case atStart => exact ⟨0, Nat.zero_le _, congrArg (Value.int .i64) (by omega), rfl, HBL.out, HBX.out⟩
      case round =>
        clear HBL HBX k0 k1 k2
        obtain ⟨j, hj, rfl, rfl, HBL, HBX⟩ := hrel
        obtain ⟨wo, hwo⟩ : ∃ wo, wo = wr := ⟨_, rfl⟩
        subst hwo
        have HBJ := Lib.hid (HBS.out j)
        have ij : ((j + 1 : Nat) : Int) = (j : Int) + 1 := by omega
        rw [ij, ← Int.add_assoc] at HBJ
        clear ij
        obtain ⟨bj, hbj⟩ : ∃ bj, bestUp ca lo com j = bj := ⟨_, rfl⟩
        have HBE := Lib.hid hbj
        rw [hbj] at HBJ ⊢
        clear hbj
        have k0 := HBX.out.cell (j := 0) rfl
        have k1 := HBX.out.cell (j := 1) rfl
        have k2 := HBX.out.cell (j := 2) rfl
        by_cases hjJ : j < J
        · obtain ⟨i, hi⟩ : ∃ i, lo + (j : Int) + 1 = i := ⟨_, rfl⟩
          have hi1 : b < i := by omega
          have hi2 : i ≤ b + (n : Int) := by omega
          have di : decide (i ≤ b + (n : Int)) = true := decide_eq_true hi2
          have HII := Lib.hid hi
          rw [hi] at HBJ
          rw [hi]
          clear hi
          have HT := Lib.hid (HTM.out i (by unfold InI; omega) wo HBL.out)
          rw [HTF.out i (by omega) hi2] at HT
          have HCB := Lib.hid (HCA.out i)
          have HCNi := Lib.hid (HCN.out i)
          have HC0i := Lib.hid (HC0.out i)
          generalize termR b t (ents es) i = tm at HT HCB
          go_wp2_with (go_at_call 14; ((with_reducible refine HT.out.mono ?_); rintro e w5 ⟨rfl, hb⟩; have HB5 := Lib.hid (HBL.out.trans (hb.mono HBL.out.size)); have HX5 := Lib.hid (HBX.out.next (by simp) hb); clear hb))
          clear k0 k1 k2
          go_loopw [22, 23] (fun cv kv wq => ∃ (k cn : Nat), 1 ≤ k ∧ k ≤ 8 ∧ kv = .int .i64 k ∧ cv = .int .i64 cn ∧ Hid (cntS s.toNat self l i (k - 1) = cn) ∧ cn ≤ k - 1 ∧ Hid (Below w.heap.size w wq) ∧ Hid (Box wq w.heap.size [.int .i64 b, .int .i64 t, .slice a n c])) (fun _ kv _ => 8 - (intOf kv).toNat)
          case atStart => exact ⟨1, 0, by omega, by omega, rfl, rfl, HC0i.out, by omega, HB5.out, HX5.out⟩
          case round =>
            clear HB5 HX5 HBL HBX HT
            obtain ⟨k, cn, hk1, hk8, rfl, rfl, HE, hcn, HBL, HBX⟩ := hrel
            by_cases h7 : k ≤ 7
            · have HS := Lib.hid (fun w' => HSM.out k w' hk1 h7)
              have ek : k - 1 + 1 = k := by omega
              have HE2 := Lib.hid (HCNi.out (k - 1))
              rw [ek, HE.out] at HE2
              have HF1 := Lib.hid (HF.out (k : Int) wr HBL.out)
              have HPM := Lib.hid (prgOf_mat l (k : Int))
              have HYS : Hid (yesS s.toNat self l i k = (inSet s.toNat k && (decide ((k : Int) = self) || decide (i ≤ matOf l k)))) := rfl
              generalize prgOf l (k : Int) = pk at HF1 HPM
              obtain ⟨p0, p1, p2⟩ := pk
              generalize hasP l (k : Int) = ph at HF1
              simp only at HPM
              rw [← HPM.out] at HYS
              generalize yesS s.toNat self l i k = yk at HYS HE2
              clear HPM ek HBJ HCB HCNi HC0i HE di
              rcases hin : inSet s.toNat k with _ | _
              all_goals rw [hin] at HS HYS
              · have hyk : yk = false := HYS.out
                subst hyk
                go_wp2_with (first
                  | (go_at_call 33; ((with_reducible refine (HS.out _).mono ?_); rintro e w3 ⟨rfl, rfl⟩))
                  | (go_at_call 15; ((with_reducible refine HF1.out.mono ?_); rintro e w2 ⟨rfl, hb⟩; have hba : Below w2.heap.size w2 (w2.alloc (.cells #[.int .i64 p0, .int .i64 p1, .int .i64 p2] 39)) := mid_alloc' (Below.refl _ _); have hbk := HBL.out.trans (hb.mono HBL.out.size); have HB2 := Lib.hid (hbk.trans (hba.mono hbk.size)); have HX2 := Lib.hid ((HBX.out.next (by simp) hb).next (by simp) hba); clear hb hba hbk)))
                go_roundw
                case rel => exact ⟨k + 1, cn, by omega, by omega, by go_num, rfl, (by show cntS _ _ _ _ (k + 1 - 1) = _; rw [Nat.add_sub_cancel, HE2.out]; simp), by omega, HB2.out, HX2.out⟩
                case measure => simp [intOf]; omega
              · rw [Bool.true_and] at HYS
                rcases he : ((k : Int) == self) with _ | _
                · have he2 : decide ((k : Int) = self) = false := decide_eq_false (by simpa using he)
                  rw [he2, Bool.false_or] at HYS
                  rcases d : decide (i ≤ p1) with _ | _
                  all_goals rw [d] at HYS
                  · have hyk : yk = false := HYS.out
                    subst hyk
                    go_wp2_with (first
                      | (go_at_call 33; ((with_reducible refine (HS.out _).mono ?_); rintro e w3 ⟨rfl, rfl⟩))
                      | (go_at_call 15; ((with_reducible refine HF1.out.mono ?_); rintro e w2 ⟨rfl, hb⟩; have hba : Below w2.heap.size w2 (w2.alloc (.cells #[.int .i64 p0, .int .i64 p1, .int .i64 p2] 39)) := mid_alloc' (Below.refl _ _); have hbk := HBL.out.trans (hb.mono HBL.out.size); have HB2 := Lib.hid (hbk.trans (hba.mono hbk.size)); have HX2 := Lib.hid ((HBX.out.next (by simp) hb).next (by simp) hba); clear hb hba hbk)))
                    go_roundw
                    case rel => exact ⟨k + 1, cn, by omega, by omega, by go_num, rfl, (by show cntS _ _ _ _ (k + 1 - 1) = _; rw [Nat.add_sub_cancel, HE2.out]; simp), by omega, HB2.out, HX2.out⟩
                    case measure => simp [intOf]; omega
                  · have hyk : yk = true := HYS.out
                    subst hyk
                    go_wp2_with (first
                      | (go_at_call 33; ((with_reducible refine (HS.out _).mono ?_); rintro e w3 ⟨rfl, rfl⟩))
                      | (go_at_call 15; ((with_reducible refine HF1.out.mono ?_); rintro e w2 ⟨rfl, hb⟩; have hba : Below w2.heap.size w2 (w2.alloc (.cells #[.int .i64 p0, .int .i64 p1, .int .i64 p2] 39)) := mid_alloc' (Below.refl _ _); have hbk := HBL.out.trans (hb.mono HBL.out.size); have HB2 := Lib.hid (hbk.trans (hba.mono hbk.size)); have HX2 := Lib.hid ((HBX.out.next (by simp) hb).next (by simp) hba); clear hb hba hbk)))
                    go_roundw
                    case rel => exact ⟨k + 1, cn + 1, by omega, by omega, by go_num, by go_num, (by show cntS _ _ _ _ (k + 1 - 1) = _; rw [Nat.add_sub_cancel, HE2.out]; simp), by omega, HB2.out, HX2.out⟩
                    case measure => simp [intOf]; omega
                · have he2 : decide ((k : Int) = self) = true := decide_eq_true (by simpa using he)
                  rw [he2, Bool.true_or] at HYS
                  have hyk : yk = true := HYS.out
                  subst hyk
                  clear he2
                  go_wp2_with (first
                    | (go_at_call 33; ((with_reducible refine (HS.out _).mono ?_); rintro e w3 ⟨rfl, rfl⟩))
                    | (go_at_call 15; ((with_reducible refine HF1.out.mono ?_); rintro e w2 ⟨rfl, hb⟩; have hba : Below w2.heap.size w2 (w2.alloc (.cells #[.int .i64 p0, .int .i64 p1, .int .i64 p2] 39)) := mid_alloc' (Below.refl _ _); have hbk := HBL.out.trans (hb.mono HBL.out.size); have HB2 := Lib.hid (hbk.trans (hba.mono hbk.size)); have HX2 := Lib.hid ((HBX.out.next (by simp) hb).next (by simp) hba); clear hb hba hbk)))
                  go_roundw
                  case rel => exact ⟨k + 1, cn + 1, by omega, by omega, by go_num, by go_num, (by show cntS _ _ _ _ (k + 1 - 1) = _; rw [Nat.add_sub_cancel, HE2.out]; simp), by omega, HB2.out, HX2.out⟩
                  case measure => simp [intOf]; omega
            · obtain rfl : k = 8 := by omega
              have hE : cntS s.toNat self l i 7 = cn := HE.out
              rw [hE] at HCB
              clear HE hE HCNi HC0i
              generalize ca i = ci at HCB HBJ
              rcases e : (tm == term) with _ | _
              · have e2 : decide (tm = term) = false := decide_eq_false (by simpa using e)
                have hci : ci = false := by rw [HCB.out, e2]; rfl
                subst hci
                clear e2
                go_wp2_with fail
                go_roundw
                case rel => first | exact ⟨j + 1, by omega, congrArg (Value.int .i64) (by have := HII.out; omega), (by rw [HBJ.out]; rfl), HBL.out, HBX.out⟩ | ((repeat apply Exists.intro); exact ⟨⟨j + 1, by omega, congrArg (Value.int .i64) (by have := HII.out; omega), (by rw [HBJ.out]; rfl), HBL.out, HBX.out⟩, rfl⟩)
                case measure => have := HII.out; simp [intOf]; omega
              · have e2 : decide (tm = term) = true := decide_eq_true (by simpa using e)
                rcases d : decide ((N : Int) < 2 * (cn : Int)) with _ | _
                · have e3 : decide (N < 2 * cn) = false := decide_eq_false (by have := of_decide_eq_false d; omega)
                  have hci : ci = false := by rw [HCB.out, e3, Bool.and_false]
                  clear e3
                  subst hci
                  clear e2
                  go_wp2_with fail
                  go_roundw
                  case rel => first | exact ⟨j + 1, by omega, congrArg (Value.int .i64) (by have := HII.out; omega), (by rw [HBJ.out]; rfl), HBL.out, HBX.out⟩ | ((repeat apply Exists.intro); exact ⟨⟨j + 1, by omega, congrArg (Value.int .i64) (by have := HII.out; omega), (by rw [HBJ.out]; rfl), HBL.out, HBX.out⟩, rfl⟩)
                  case measure => have := HII.out; simp [intOf]; omega
                · have e3 : decide (N < 2 * cn) = true := decide_eq_true (by have := of_decide_eq_true d; omega)
                  have hci : ci = true := by rw [HCB.out, e2, e3]; rfl
                  clear e3
                  subst hci
                  clear e2
                  go_wp2_with fail
                  go_roundw
                  case rel => first | exact ⟨j + 1, by omega, congrArg (Value.int .i64) (by have := HII.out; omega), (by rw [HBJ.out]; rfl), HBL.out, HBX.out⟩ | ((repeat apply Exists.intro); exact ⟨⟨j + 1, by omega, congrArg (Value.int .i64) (by have := HII.out; omega), (by rw [HBJ.out]; rfl), HBL.out, HBX.out⟩, rfl⟩)
                  case measure => have := HII.out; simp [intOf]; omega
        · obtain rfl : j = J := by omega
          have di : decide (lo + (j : Int) + 1 ≤ b + (n : Int)) = false := decide_eq_false (by omega)
          have hcr : cr = bj := by rw [HCR.out]; exact HBE.out
          subst hcr
          go_wp2_with fail
          go_ret2
          exact ⟨rfl, HBL.out⟩
end Go.Proofs.Ytmihgdjnjfjjcaa
