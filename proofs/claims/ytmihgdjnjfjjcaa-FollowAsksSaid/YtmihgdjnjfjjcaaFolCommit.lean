import Derived.Test.YtmihgdjnjfjjcaaPackFollowAsks5
import Derived.Test.YtmihgdjnjfjjcaaPackFollowAsks2
set_option linter.unusedVariables false
set_option linter.unusedSimpArgs false
/- Up to where rows are committed (follow.Commit). -/
namespace Go.Proofs.Ytmihgdjnjfjjcaa
open Go.ChangeShapes Go.WideShapes Go.ChangeAt Go.RowKit
set_option maxRecDepth 100000

set_option maxHeartbeats 16000000 in
theorem commit_any (es : List RwE) (b t : Int) (a : Option Addr) (n c : Nat) (s : UInt8) (self term com : Int) (l : List Prg) (a2 : Option Addr) (n2 c2 : Nat) (w : World) (hn : es.length = n) (hl : n ≤ 1000000) (hr : Row w a (es.flatMap cellsRw)) (hn2 : l.length = n2) (hl2 : n2 ≤ 1000000) (hr2 : LRow layPrg w a2 l) (hcom : InI com) :
    Calls Try.prog 10 #[.agg #[.int .i64 b, .int .i64 t, .slice a n c], B s, .int .i64 self, .int .i64 term, .int .i64 com, .slice a2 n2 c2] w (RetII w (commitF b t (ents es) s.toNat self term com l)) := by
  have hlen : (ents es).length = n := by rw [← hn]; exact List.length_map _
  have HB0 : Hid (Below w.heap.size w (w.alloc (.cells #[.int .i64 b, .int .i64 t, .slice a n c] 24))) := mid_alloc' (Below.refl _ _)
  have HX0 : Hid (Box (w.alloc (.cells #[.int .i64 b, .int .i64 t, .slice a n c] 24)) w.heap.size [.int .i64 b, .int .i64 t, .slice a n c]) := Box.of_alloc (w := w) (cs := [.int .i64 b, .int .i64 t, .slice a n c]) (t := 24) (Below.refl _ _)
  have HC := Lib.hid (fun w' (hb : Below w.heap.size w w') => check_any es b t a n c w' hn hl (hr.mono_below hb))
  have HLV := Lib.hid (fun w' (hb : Below w.heap.size w w') => lastV_any es b t a n c w' hn hl (hr.mono_below hb))
  have HTM := Lib.hid (fun i (hi : InI i) w' (hb : Below w.heap.size w w') => term_any es b t a n c w' hn hl (hr.mono_below hb) i hi)
  have HF := Lib.hid (fun k w' (hb : Below w.heap.size w w') => find_any l a2 n2 c2 k w' hn2 hl2 (LRow.below hr2 hb))
  have HSM := Lib.hid (fun k w' h1 h2 => has_any s k w' h1 h2)
  rcases hok : okR b t (ents es) with _ | _
  · rw [chk_not hok] at HC
    rw [commitF_not hok]
    clear hok hlen hr hn hr2 hn2 HLV HTM HF HSM
    go_enter Try.func10, Try.ntmps10
    go_wp2_with (go_at_call 28; ((with_reducible refine (HC.out _ HB0.out).mono ?_); rintro e w1 ⟨rfl, hb⟩; have HB1 := Lib.hid (HB0.out.trans (hb.mono HB0.out.size)); clear hb))
    go_ret2
    exact ⟨rfl, HB1.out⟩
  have hob := ok_bounds hok
  have hb1 : 0 ≤ b := hob.1
  have hb2 : b + (n : Int) ≤ 1099511627776 := by have := hob.2.2.1; rw [hlen] at this; exact this
  have hb3 : n ≤ 4096 := by have := hob.2.1; rw [hlen] at this; exact this
  rw [chk_ok hok] at HC
  rw [lastF_ok hok, hlen] at HLV
  generalize lastT t (ents es) = lt at HLV
  have HA := Lib.hid (fun h2 => commitF_arg (set := s.toNat) (self := self) (term := term) (com := com) (l := l) hok h2)
  have HG := Lib.hid (fun h2 => commitF_ok (set := s.toNat) (self := self) (term := term) (com := com) (l := l) hok h2)
  rw [hlen] at HA HG
  have HCA := Lib.hid (fun (sl : List Int) hp hs h0 i hi => com_at (b := b) (t := t) (es := ents es) (set := s.toNat) (self := self) (term := term) (l := l) (s := sl) hp hs h0 (i := i) hi)
  have HML := Lib.hid (fun (sl : List Int) hp h0 => most_le (b := b) (es := ents es) (set := s.toNat) (self := self) (l := l) (s := sl) hp h0)
  have HRA := Lib.hid (fun m h1 h2 h3 h4 h5 => comR_at (b := b) (t := t) (es := ents es) (set := s.toNat) (self := self) (term := term) (com := com) (l := l) (m := m) h1 h2 h3 h4 h5)
  have HRN := Lib.hid (fun h5 => comR_none (b := b) (t := t) (es := ents es) (set := s.toNat) (self := self) (term := term) (com := com) (l := l) h5)
  rw [hlen] at HCA HML HRA HRN
  have HTF : Hid (∀ i, b ≤ i → i ≤ b + (n : Int) → termF b t (ents es) i = (termR b t (ents es) i, true)) := fun i h1 h2 => by
    unfold termF hasR; rw [if_pos ⟨hok, decide_eq_true ⟨h1, by rw [hlen]; exact h2⟩⟩]
  generalize commitF b t (ents es) s.toNat self term com l = r at HA HG ⊢
  generalize comR b t (ents es) s.toNat self term com l = cr at HG HRA HRN
  generalize comAt b t (ents es) s.toNat self term l = ca at HCA HRA HRN
  have HMM := Lib.hid (fun k => (show mats s.toNat self (b + (n : Int)) l (k + 1) = mats s.toNat self (b + (n : Int)) l k ++ (if inSet s.toNat (k + 1) then [mval self (b + (n : Int)) l (k + 1)] else []) from rfl))
  have HSZ := Lib.hid (mats_length s.toNat self (b + (n : Int)) l 7)
  have HSL := Lib.hid (sizeS_le s.toNat 7)
  have HM0 : Hid (mats s.toNat self (b + (n : Int)) l 0 = []) := rfl
  unfold InI at hcom
  clear hok hlen hr hn hr2 hn2 hob
  go_enter Try.func10, Try.ntmps10
  go_wp2_with (first
    | (have hgq := HX1; clear hgq; go_at_call 29; ((with_reducible refine (HLV.out _ HB1.out).mono ?_); rintro e w2 ⟨rfl, hb⟩; have HX2 := Lib.hid (HX1.out.next (by simp) hb); have HB2 := Lib.hid (HB1.out.trans (hb.mono HB1.out.size)); clear hb))
    | (go_at_call 28; ((with_reducible refine (HC.out _ HB0.out).mono ?_); rintro e w1 ⟨rfl, hb⟩; have HX1 := Lib.hid (HX0.out.next (by simp) hb); have HB1 := Lib.hid (HB0.out.trans (hb.mono HB0.out.size)); clear hb; have k0 := HX1.out.cell (j := 0) rfl; have k1 := HX1.out.cell (j := 1) rfl; have k2 := HX1.out.cell (j := 2) rfl)))
  clear k0 k1 k2
  go_loopw [16, 17] (fun mt nn wr => ∃ (k : Nat) (a1 : Option Addr) (c1 : Nat) (ml : List Int), 1 ≤ k ∧ k ≤ 8 ∧ nn = .int .i64 k ∧ mt = .slice a1 ml.length c1 ∧ Hid (mats s.toNat self (b + (n : Int)) l (k - 1) = ml) ∧ ml.length ≤ k - 1 ∧ Hid (OwnI wr (w.heap.size + 1) a1 ml.length c1 ml) ∧ Hid (Below w.heap.size w wr) ∧ Hid (Box wr w.heap.size [.int .i64 b, .int .i64 t, .slice a n c])) (fun _ nn _ => 8 - (intOf nn).toNat)
  case atStart => exact ⟨1, none, 0, [], by omega, by omega, rfl, rfl, HM0.out, by simp, World.ownsRow_nil _ _ _ _, HB2.out, HX2.out⟩
  case round =>
    clear HB0 HX0 HX1 HB1 HX2 HB2 HM0 HC HLV
    obtain ⟨k, a1, c1, ml, hk1, hk8, rfl, rfl, HE, hm7, HOW, HBL, HBX⟩ := hrel
    by_cases h7 : k ≤ 7
    · have hsz := HBX.out.lt (by simp)
      have HS := Lib.hid (fun w' => HSM.out k w' hk1 h7)
      have ek : k - 1 + 1 = k := by omega
      have HE2 := Lib.hid (HMM.out (k - 1))
      rw [ek, HE.out] at HE2
      have HF1 := Lib.hid (HF.out (k : Int) wr HBL.out)
      have HPM := Lib.hid (prgOf_mat l (k : Int))
      have HMV : Hid (mval self (b + (n : Int)) l k = if (k : Int) = self then b + (n : Int) else min (matOf l k) (b + (n : Int))) := rfl
      generalize prgOf l (k : Int) = pk at HF1 HPM
      obtain ⟨p0, p1, p2⟩ := pk
      generalize hasP l (k : Int) = ph at HF1
      simp only at HPM
      rw [← HPM.out] at HMV
      clear HPM HSM HF HMM HSZ HSL HA HG HCA HML HRA HRN HTF HTM ek
      rcases hin : inSet s.toNat k with _ | _
      all_goals rw [hin] at HS HE2
      · go_wp2_with (first
          | (go_at_call 30; ((with_reducible refine (HS.out _).mono ?_); rintro e w3 ⟨rfl, rfl⟩))
          | (go_at_call 17; ((with_reducible refine HF1.out.mono ?_); rintro e w2 ⟨rfl, hb⟩; have hba : Below w2.heap.size w2 (w2.alloc (.cells #[.int .i64 p0, .int .i64 p1, .int .i64 p2] 39)) := mid_alloc' (Below.refl _ _); have HOW2 := Lib.hid ((HOW.out.next hb).next hba); have hbk := HBL.out.trans (hb.mono HBL.out.size); have HB2 := Lib.hid (hbk.trans (hba.mono hbk.size)); have HX2 := Lib.hid ((HBX.out.next (by simp) hb).next (by simp) hba); clear hb hba hbk)))
        go_roundw
        case rel => exact ⟨k + 1, a1, c1, ml, by omega, by omega, by go_num, rfl, (by show mats _ _ _ _ (k + 1 - 1) = _; rw [Nat.add_sub_cancel, HE2.out]; simp), by omega, HOW2.out, HB2.out, HX2.out⟩
        case measure => simp [intOf]; omega
      · rcases he : ((k : Int) == self) with _ | _
        · rcases d : decide (b + (n : Int) < p1) with _ | _
          · have dp : ¬ b + (n : Int) < p1 := of_decide_eq_false d
            go_wp2_with (first
              | (have hgq := HOW2; clear hgq; at_builtin; refine wpList_int1 rfl (.tmp 41) (.tmp 46) rfl (w.heap.size + 1) a1 ml.length c1 ml rfl HOW2.out (p1) (w2.heap.size + 1) (by simp) rfl (by omega) (HX2.out.lt (by simp)) ?_; intro a4 c4 w4 how4 hb4 hs4; have HOW4 := Lib.hid how4; have HB4 := Lib.hid (HB2.out.trans (hb4.mono (Nat.le_succ _))); have HX4 := Lib.hid (HX2.out.below hb4 (Nat.lt_succ_self _)); clear how4 hb4 hs4)
              | (go_at_call 30; ((with_reducible refine (HS.out _).mono ?_); rintro e w3 ⟨rfl, rfl⟩))
              | (go_at_call 17; ((with_reducible refine HF1.out.mono ?_); rintro e w2 ⟨rfl, hb⟩; have hba : Below w2.heap.size w2 (w2.alloc (.cells #[.int .i64 p0, .int .i64 p1, .int .i64 p2] 39)) := mid_alloc' (Below.refl _ _); have HOW2 := Lib.hid ((HOW.out.next hb).next hba); have hbk := HBL.out.trans (hb.mono HBL.out.size); have HB2 := Lib.hid (hbk.trans (hba.mono hbk.size)); have HX2 := Lib.hid ((HBX.out.next (by simp) hb).next (by simp) hba); clear hb hba hbk)))
            go_roundw
            case rel => exact ⟨k + 1, a4, c4, ml ++ [p1], by omega, by omega, by go_num, by simp, (by show mats _ _ _ _ (k + 1 - 1) = _; rw [Nat.add_sub_cancel, HE2.out]; show ml ++ [mval _ _ _ _] = _; rw [HMV.out]; rw [if_neg (by simpa using he)]; congr 2; have := of_decide_eq_false d; omega), by simp; omega, (by (show OwnI _ _ _ _ _ _); rw [List.length_append]; exact HOW4.out), HB4.out, HX4.out⟩
            case measure => simp [intOf]; omega

          · have dp : b + (n : Int) < p1 := of_decide_eq_true d
            go_wp2_with (first
              | (have hgq := HOW2; clear hgq; at_builtin; refine wpList_int1 rfl (.tmp 41) (.tmp 46) rfl (w.heap.size + 1) a1 ml.length c1 ml rfl HOW2.out (b + (n : Int)) (w2.heap.size + 1) (by simp) rfl (by omega) (HX2.out.lt (by simp)) ?_; intro a4 c4 w4 how4 hb4 hs4; have HOW4 := Lib.hid how4; have HB4 := Lib.hid (HB2.out.trans (hb4.mono (Nat.le_succ _))); have HX4 := Lib.hid (HX2.out.below hb4 (Nat.lt_succ_self _)); clear how4 hb4 hs4)
              | (go_at_call 30; ((with_reducible refine (HS.out _).mono ?_); rintro e w3 ⟨rfl, rfl⟩))
              | (go_at_call 17; ((with_reducible refine HF1.out.mono ?_); rintro e w2 ⟨rfl, hb⟩; have hba : Below w2.heap.size w2 (w2.alloc (.cells #[.int .i64 p0, .int .i64 p1, .int .i64 p2] 39)) := mid_alloc' (Below.refl _ _); have HOW2 := Lib.hid ((HOW.out.next hb).next hba); have hbk := HBL.out.trans (hb.mono HBL.out.size); have HB2 := Lib.hid (hbk.trans (hba.mono hbk.size)); have HX2 := Lib.hid ((HBX.out.next (by simp) hb).next (by simp) hba); clear hb hba hbk)))
            go_roundw
            case rel => exact ⟨k + 1, a4, c4, ml ++ [b + (n : Int)], by omega, by omega, by go_num, by simp, (by show mats _ _ _ _ (k + 1 - 1) = _; rw [Nat.add_sub_cancel, HE2.out]; show ml ++ [mval _ _ _ _] = _; rw [HMV.out]; rw [if_neg (by simpa using he)]; congr 2; have := of_decide_eq_true d; omega), by simp; omega, (by (show OwnI _ _ _ _ _ _); rw [List.length_append]; exact HOW4.out), HB4.out, HX4.out⟩
            case measure => simp [intOf]; omega

        · have he2 : (k : Int) = self := by simpa using he
          have HEQ := Lib.hid he2
          clear he2
          go_wp2_with (first
              | (have hgq := HOW2; clear hgq; at_builtin; refine wpList_int1 rfl (.tmp 57) (.tmp 59) rfl (w.heap.size + 1) a1 ml.length c1 ml rfl HOW2.out (b + (n : Int)) (w2.heap.size + 1) (by simp) rfl (by omega) (HX2.out.lt (by simp)) ?_; intro a4 c4 w4 how4 hb4 hs4; have HOW4 := Lib.hid how4; have HB4 := Lib.hid (HB2.out.trans (hb4.mono (Nat.le_succ _))); have HX4 := Lib.hid (HX2.out.below hb4 (Nat.lt_succ_self _)); clear how4 hb4 hs4)
              | (go_at_call 30; ((with_reducible refine (HS.out _).mono ?_); rintro e w3 ⟨rfl, rfl⟩))
              | (go_at_call 17; ((with_reducible refine HF1.out.mono ?_); rintro e w2 ⟨rfl, hb⟩; have hba : Below w2.heap.size w2 (w2.alloc (.cells #[.int .i64 p0, .int .i64 p1, .int .i64 p2] 39)) := mid_alloc' (Below.refl _ _); have HOW2 := Lib.hid ((HOW.out.next hb).next hba); have hbk := HBL.out.trans (hb.mono HBL.out.size); have HB2 := Lib.hid (hbk.trans (hba.mono hbk.size)); have HX2 := Lib.hid ((HBX.out.next (by simp) hb).next (by simp) hba); clear hb hba hbk)))
          go_roundw
          case rel => exact ⟨k + 1, a4, c4, ml ++ [b + (n : Int)], by omega, by omega, by go_num, by simp, (by show mats _ _ _ _ (k + 1 - 1) = _; rw [Nat.add_sub_cancel, HE2.out]; show ml ++ [mval _ _ _ _] = _; rw [HMV.out]; rw [if_pos HEQ.out]), by simp; omega, (by (show OwnI _ _ _ _ _ _); rw [List.length_append]; exact HOW4.out), HB4.out, HX4.out⟩
          case measure => simp [intOf]; omega
    · obtain rfl : k = 8 := by omega
      have hE : mats s.toNat self (b + (n : Int)) l 7 = ml := HE.out
      have hN := HSZ.out
      have hN7 := HSL.out
      rw [hE] at hN HCA HML
      generalize sizeS s.toNat 7 = N at hN hN7 HA HG HCA HML
      subst hN
      clear HE hE HSZ HSL HMM HF HSM hm7
      have k0 := HBX.out.cell (j := 0) rfl
      have k1 := HBX.out.cell (j := 1) rfl
      have k2 := HBX.out.cell (j := 2) rfl
      rcases d1 : decide (com < 0) with _ | _
      rotate_left
      · obtain rfl := HA.out (.inl (of_decide_eq_true d1))
        go_wp2_with fail
        go_ret2
        exact ⟨rfl, HBL.out⟩
      rcases d2 : decide (b + (n : Int) < com) with _ | _
      rotate_left
      · obtain rfl := HA.out (.inr (.inl (of_decide_eq_true d2)))
        go_wp2_with fail
        go_ret2
        exact ⟨rfl, HBL.out⟩
      rcases d3 : decide (term < 1) with _ | _
      rotate_left
      · obtain rfl := HA.out (.inr (.inr (.inl (of_decide_eq_true d3))))
        go_wp2_with fail
        go_ret2
        exact ⟨rfl, HBL.out⟩
      rcases d4 : ((ml.length : Int) == 0) with _ | _
      rotate_left
      · have h4 : ml.length = 0 := by have : (ml.length : Int) = 0 := by simpa using d4
                                      omega
        obtain rfl := HA.out (.inr (.inr (.inr h4)))
        go_wp2_with fail
        go_ret2
        exact ⟨rfl, HBL.out⟩
      have h4 : 0 < ml.length := by have : ¬ (ml.length : Int) = 0 := by simpa using d4
                                    omega
      obtain rfl := HG.out (by have := of_decide_eq_false d1; have := of_decide_eq_false d2; have := of_decide_eq_false d3; omega)
      obtain ⟨g, ha1, hgB, hcc, hbx⟩ := HOW.out.box h4 rfl
      subst ha1
      have HDN := Lib.hid (down_any g ml.length c1 ml wr rfl h4 hN7 hcc hbx)
      have HGB := Lib.hid hgB
      clear HA HG HOW hgB hcc hbx
      have g1 : (0 : Int) ≤ (ml.length : Int) / 2 := by omega
      have g2 : (ml.length : Int) / 2 < (ml.length : Int) := by omega
      have g3 : ((ml.length : Int) / 2).toNat = ml.length / 2 := by omega
      go_wp2_with (go_at_call 31; ((with_reducible refine HDN.out.mono ?_); rintro e w2 ⟨rfl, sl, hp, hs, hbx, ho⟩; have x0 := hbx.cell (ints_at (show ml.length / 2 < sl.length by rw [hp.length_eq]; omega)); obtain ⟨m0, hm0⟩ : ∃ m0, sl.getD (ml.length / 2) 0 = m0 := ⟨_, rfl⟩; rw [hm0] at x0; have HM0 := Lib.hid hm0; clear hm0; have HPP := Lib.hid hp; have HSS := Lib.hid hs; have HB2 := Lib.hid (HBL.out.trans (ho.below (Nat.le_of_lt HGB.out) HBL.out.size)); have HX2 := Lib.hid (HBX.out.block (ho.block _ (HBX.out.lt (by simp)) (fun e => by have := HGB.out; omega))); clear hp hs hbx ho))
      have HCB := Lib.hid (HCA.out sl HPP.out HSS.out h4)
      have HMB := Lib.hid (HML.out sl HPP.out h4)
      rw [HM0.out] at HCB HMB
      have hmb := HMB.out
      have hc0 : 0 ≤ com := by have := of_decide_eq_false d1; omega
      have HCF : Hid (∀ i, m0 < i → i ≤ b + (n : Int) → ca i = false) := fun i h1 h2 => by rw [HCB.out i h2, decide_eq_false (show ¬ i ≤ m0 by omega), Bool.and_false]
      clear x0 k0 k1 k2 HCA HML HPP HSS HM0 HBL HBX HDN HGB g1 g2 g3 d1 d2 d3 d4
      go_loopw [20] (fun mv wr2 => ∃ m : Int, mv = .int .i64 m ∧ m ≤ m0 ∧ Hid (∀ i, m < i → i ≤ b + (n : Int) → ca i = false) ∧ Hid (Below w.heap.size w wr2) ∧ Hid (Box wr2 w.heap.size [.int .i64 b, .int .i64 t, .slice a n c])) (fun mv _ => (intOf mv - com).toNat)
      case atStart => exact ⟨m0, rfl, Int.le_refl _, HCF.out, HB2.out, HX2.out⟩
      case round =>
        clear HCF HB2 HX2
        obtain ⟨m, rfl, hm0, HF, HBL, HBX⟩ := hrel
        have k0 := HBX.out.cell (j := 0) rfl
        have k1 := HBX.out.cell (j := 1) rfl
        have k2 := HBX.out.cell (j := 2) rfl
        by_cases c1 : com < m
        · have d1 : decide (com < m) = true := decide_eq_true c1
          by_cases c2 : b < m
          · have d2 : decide (b < m) = true := decide_eq_true c2
            have HT := Lib.hid (HTM.out m (by unfold InI; omega) wr HBL.out)
            rw [HTF.out m (by omega) (by omega)] at HT
            have HCM := Lib.hid (HCB.out m (by omega))
            rw [decide_eq_true hm0, Bool.and_true] at HCM
            generalize termR b t (ents es) m = tm at HT HCM
            rcases e : (tm == term) with _ | _
            · have HCM2 : Hid (ca m = false) := by show _ = _; rw [HCM.out]; exact decide_eq_false (by simpa using e)
              go_wp2_with (go_at_call 32; ((with_reducible refine HT.out.mono ?_); rintro e w5 ⟨rfl, hb⟩; have HB5 := Lib.hid (HBL.out.trans (hb.mono HBL.out.size)); have HX5 := Lib.hid (HBX.out.next (by simp) hb); clear hb))
              go_roundw
              case rel => exact ⟨m - 1, rfl, by omega, (fun i h1 h2 => if hi : i = m then (by rw [hi]; exact HCM2.out) else HF.out i (by omega) h2), HB5.out, HX5.out⟩
              case measure => simp [intOf]; omega
            · have HCM2 : Hid (ca m = true) := by show _ = _; rw [HCM.out]; exact decide_eq_true (by simpa using e)
              have hcr := HRA.out m c1 c2 (by omega) HCM2.out HF.out
              subst hcr
              go_wp2_with (go_at_call 32; ((with_reducible refine HT.out.mono ?_); rintro e w5 ⟨rfl, hb⟩; have HB5 := Lib.hid (HBL.out.trans (hb.mono HBL.out.size)); clear hb))
              go_ret2
              exact ⟨rfl, HB5.out⟩
          · have d2 : decide (b < m) = false := decide_eq_false c2
            have hcr := HRN.out (fun i h1 h2 => HF.out i (by omega) h2)
            subst hcr
            go_wp2_with fail
            go_ret2
            exact ⟨rfl, HBL.out⟩
        · have d1 : decide (com < m) = false := decide_eq_false c1
          have hcr := HRN.out (fun i h1 h2 => HF.out i (by omega) h2)
          subst hcr
          go_wp2_with fail
          go_ret2
          exact ⟨rfl, HBL.out⟩
end Go.Proofs.Ytmihgdjnjfjjcaa
