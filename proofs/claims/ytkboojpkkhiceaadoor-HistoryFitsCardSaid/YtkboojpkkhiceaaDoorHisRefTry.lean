import Derived.Test.YtkboojpkkhiceaaDoorHisTry
import Derived.Test.YtkboojpkkhiceaaDoorPackHistoryDoes3
import Derived.OwnWalk
set_option linter.unusedVariables false
set_option linter.unusedSimpArgs false
/- An order tried, the document's side. (printed by gen_hisreftry.py) -/
namespace Go.Proofs.YtkboojpkkhiceaaDoor
open Go.ChangeShapes Go.WideShapes Go.ChangeAt Go.RowKit
set_option maxRecDepth 100000

def seenL (n d : Nat) : List Value := (List.range n).map fun j => Value.bool (d.testBit j)
theorem seenL_len (n d : Nat) : (seenL n d).length = n := by simp [seenL]
theorem seenL_at {n d j : Nat} (h : j < n) : (seenL n d)[j]? = some (.bool (d.testBit j)) := by unfold seenL; rw [List.getElem?_map, List.getElem?_range h]; rfl
theorem seenL_set {n d k : Nat} (_ : k < n) : (seenL n d).set k (.bool true) = seenL n (d ||| 2 ^ k) := by
  apply List.ext_getElem?
  intro j
  by_cases hj : j < n
  · rw [seenL_at hj, testBit_or]
    by_cases e : k = j
    · subst e; rw [List.getElem?_set_self (by rw [seenL_len]; exact hj)]; simp
    · rw [List.getElem?_set_ne e, seenL_at hj]; simp [e]
  · rw [List.getElem?_eq_none (by rw [List.length_set, seenL_len]; omega), List.getElem?_eq_none (by rw [seenL_len]; omega)]
theorem own_box1 {w : World} {B g n c : Nat} {e : TypeId} {xs : List Value} (h : w.ownsRow B e 1 (.slice (some ⟨g, 0, none⟩) n c) n xs) : Box w g xs := by
  obtain ⟨hl, h⟩ := h
  rcases h with ⟨hv, hz⟩ | ⟨g', cap, cur, hv, hB, hg, hnc, hm, hs, ht⟩
  · cases hv
  · simp only [Value.slice.injEq, Option.some.injEq, Addr.mk.injEq] at hv
    obtain ⟨⟨rfl, _⟩, _, rfl⟩ := hv
    have hcell : ∀ j, w.cell? ⟨g, 0 + j, none⟩ = cur[j]? := fun j => by simp [World.cell?, hg]
    refine ⟨fun j v hv => ?_, fun j hj => ?_⟩
    · rw [hcell]
      rw [← ht, List.getElem?_take] at hv
      split at hv
      · simpa using hv
      · cases hv
    · rw [hcell, Array.getElem?_eq_getElem (by omega)]
      exact ⟨rfl, by simp [World.frozen?, hg]⟩
theorem seen_zero (n : Nat) : (madeCells (Value.bool false).cells (n * 1)).toList = seenL n 0 := by
  apply List.ext_getElem?
  intro j
  by_cases hj : j < n
  · rw [seenL_at hj]; simp [madeCells, hj, Value.cells, Nat.mod_one]
  · rw [List.getElem?_eq_none (by simp [madeCells]; omega), List.getElem?_eq_none (by rw [seenL_len]; omega)]
set_option maxHeartbeats 16000000 in
theorem reftry_any (l : List HCall) (os : List Int) (a1 a2 : Option Addr) (n1 c1 n2 c2 : Nat) (w : World) (h1 : l.length = n1) (h2 : os.length = n2) (k1 : n1 ≤ maxLen) (k2 : n2 ≤ maxLen) (r1 : LRow layCal w a1 l) (r2 : Row w a2 (os.map (Value.int .i64))) :
    Calls Tryd.prog 17 #[.slice a1 n1 c1, .slice a2 n2 c2] w fun e w' => e = .returned (.tuple #[.bool (tryF l os).1, .int .i64 (tryF l os).2]) ∧ Below w.heap.size w w' := by
  subst h1 h2
  have HC := Lib.hid (refhcheck_any l a1 l.length c1 w rfl k1 r1)
  cases hck : chkL l with
  | false =>
    rw [hck] at HC
    rw [show tryF l os = (false, 2) by unfold tryF; rw [if_neg (by rw [hck]; simp)]]
    clear hck r1 r2
    go_enter Tryd.func17, Tryd.ntmps17
    go_wp2_with (go_at_call 13; ((with_reducible refine HC.out.mono ?_); rintro e w1 ⟨rfl, hb⟩))
    go_returns
    exact ⟨rfl, hb⟩
  | true =>
  rw [hck] at HC
  have hl12 : l.length ≤ 12 := by unfold chkL at hck; simp only [Bool.and_eq_true, decide_eq_true_eq] at hck; exact hck.1
  rw [show tryF l os = (runT l os 0 [], 0) by unfold tryF; rw [if_pos hck]]
  have hlo := lt_maxLen k2
  have HR0 : Hid (runT l (os.drop 0) 0 [] = runT l os 0 []) := rfl
  generalize runT l os 0 [] = res at HR0 ⊢
  have H1 := Lib.hid r1
  have H2 := Lib.hid r2
  obtain ⟨i0, hi, hz0, hz1, hz2⟩ := info_parts (show (Tryd.prog.info? 4).map (fun i => (i.zero, i.size, i.bytes)) = some (some (.bool false), 1, 1) by kernel_rfl)
  have HI := Lib.hid (And.intro hi (And.intro hz0 (And.intro hz1 hz2)))
  clear hck r1 r2 hi hz0 hz1 hz2
  go_enter Tryd.func17, Tryd.ntmps17
  go_wp2_with (first
    | (go_at_call 13; ((with_reducible refine HC.out.mono ?_); rintro e w1 ⟨rfl, hb⟩; have HB1 := Lib.hid hb; have hs1 := hb.size; clear hb))
    | (refine wpList_make_full w1 rfl (.tmp 18) (.tmp 18) 76 rfl w1.heap.size 4 i0 (.bool false) 1 Tryd.underlying76 HI.out.1 HI.out.2.1 HI.out.2.2.1 .i64 .i64 _ _ l.length rfl rfl rfl rfl (by rw [HI.out.2.2.2]; omega) (by unfold maxLen; omega) (Nat.le_refl _) ?_; intro w2 ho2 hg2; have HS2 : Hid (Box w2 w1.heap.size (seenL l.length 0)) := (by have h := own_box1 ho2; rw [seen_zero] at h; exact h); have HB2 := Lib.hid (HB1.out.trans ((show Below w1.heap.size w1 w2 from ⟨hg2.os, hg2.tape, hg2.output, hg2.size, fun k hk => hg2.block k hk (by simp)⟩).mono hs1)); have hg1 : w1.heap.size < w2.heap.size := (own_place ho2 _ _ _ rfl).2; clear ho2 hg2))
  generalize hgg : w1.heap.size = g at *
  go_loopw [7, 8] (fun s7 s8 wr => ∃ (i d : Nat) (a : Option Addr) (c : Nat) (t : List Force), i ≤ os.length ∧ s8 = .int .i64 i ∧ s7 = .slice a t.length c ∧ d < 65536 ∧ t.length ≤ 16 ∧ t.length ≤ c ∧ Hid (a = none → c = 0) ∧ Hid (tabOk t = true) ∧ Hid (LRow layFce wr a t) ∧ Hid (Near (g + 1) none a) ∧ Hid (runT l (os.drop i) d t = res) ∧ Hid (Box wr g (seenL l.length d)) ∧ g < wr.heap.size ∧ Hid (Below w.heap.size w wr)) (fun _ s8 _ => os.length - (intOf s8).toNat)
  case atStart => exact ⟨0, 0, none, 0, [], by omega, rfl, rfl, by decide, by decide, Nat.le_refl _, fun _ => rfl, rfl, .inl rfl, Near.nil _ _, HR0.out, HS2.out, hg1, HB2.out⟩
  case round =>
    obtain ⟨i, d, a, c, t, hi, rfl, rfl, hd, hlen, hnc, HCN, HOK, HTR, HNR, HRI, HSE, hgr, HB⟩ := hrel
    clear HS2 HB2
    by_cases hlt : i < os.length
    · obtain ⟨b2, o2, ha2, hc2⟩ := row_ints H2.out hlt
      subst ha2
      have e0 := hc2 _ HB.out
      have HRI2 : Hid (runT l (os[i] :: os.drop (i + 1)) d t = res) := by show _ = _; rw [← run_drop hlt]; exact HRI.out
      have hq0 : decide ((i : Int) < (os.length : Int)) = true := decide_eq_true (by omega)
      generalize os[i] = z at e0 HRI2
      clear hc2 HRI
      by_cases hz0 : z < 0
      · have HO : Hid (res = false) := by show _ = _; rw [← HRI2.out]; exact run_out (.inl hz0)
        have d0 : decide (z < 0) = true := decide_eq_true hz0
        clear hz0
        go_wp2
        go_returns
        exact ⟨by rw [HO.out]; rfl, HB.out⟩
      by_cases hz1 : (l.length : Int) ≤ z
      · have HO : Hid (res = false) := by show _ = _; rw [← HRI2.out]; exact run_out (.inr hz1)
        have d0 : decide (z < 0) = false := decide_eq_false hz0
        have d1 : decide ((l.length : Int) ≤ z) = true := decide_eq_true hz1
        clear hz0 hz1
        go_wp2
        go_returns
        exact ⟨by rw [HO.out]; rfl, HB.out⟩
      obtain ⟨k, rfl⟩ : ∃ k : Nat, z = (k : Int) := ⟨z.toNat, by omega⟩
      have hk : k < l.length := by omega
      have hk16 : k < 16 := by omega
      have d0 : decide ((k : Int) < 0) = false := decide_eq_false hz0
      have d1 : decide ((l.length : Int) ≤ (k : Int)) = false := decide_eq_false hz1
      clear hz0 hz1
      have hi0 : decide ((0 : Int) ≤ (k : Int)) = true := decide_eq_true (by omega)
      have hi1 : decide ((k : Int) < (l.length : Int)) = true := decide_eq_true (by omega)
      have es := HSE.out.cell (seenL_at (d := d) hk)
      obtain ⟨b, o, ha1, -⟩ := LRow.range H1.out hk
      subst ha1
      rcases hb : d.testBit k with _ | _
      · rw [hb] at es
        have hxr : Hid (∀ (j : Nat) (hj : j < l.length) w', Below w.heap.size w w' → w'.rangeAt b (o + j * 20) (HCall.cells l[j])) := fun j hj w' hb => by
          obtain ⟨b', o', e', hcs⟩ := LRow.range H1.out hj
          simp only [Option.some.injEq, Addr.mk.injEq, and_true] at e'
          obtain ⟨rfl, rfl⟩ := e'
          exact hcs w' hb
        go_wp2_with fail
        clear es e0
        have HFR : Hid (frAt l k = l[k].frm) := frAt_eq hk
        go_loopw [10] (fun s10 ws => ∃ j : Nat, j ≤ l.length ∧ s10 = .int .i64 j ∧ Hid ((List.range j).any (waitsB l d k) = false) ∧ Hid (LRow layFce ws a t) ∧ Hid (Box ws g (seenL l.length d)) ∧ g < ws.heap.size ∧ Hid (Below w.heap.size w ws)) (fun s10 _ => l.length - (intOf s10).toNat)
        case atStart => exact ⟨0, by omega, rfl, rfl, HTR.out, HSE.out, hgr, HB.out⟩
        case round =>
          clear HTR HSE hgr HB
          obtain ⟨j, hj, rfl, HAN, HTR, HSE, hgr, HB⟩ := hrel
          by_cases hjl : j < l.length
          · have e2 : wr.cell? ⟨b, o + j * 20 + 14, none⟩ = some (.int .i64 l[j].to) := hxr.out j hjl wr HB.out 14 _ rfl
            have e3 : wr.cell? ⟨b, o + k * 20 + 13, none⟩ = some (.int .i64 l[k].frm) := hxr.out k hk wr HB.out 13 _ rfl
            have es := HSE.out.cell (seenL_at (d := d) hjl)
            have HW : Hid (waitsB l d k j = (j != k && !d.testBit j && l[j].to != 0 && decide (l[j].to < l[k].frm))) := by show _ = _; unfold waitsB; rw [toAt_eq hjl, HFR.out]
            have HHIT : Hid (waitsB l d k j = true → res = false) := fun h => by rw [← HRI2.out]; exact run_no (.inr (range_any_hit hjl h))
            have HN1 := Lib.hid (range_any hjl HAN.out)
            generalize l[j].to = t' at e2 HW
            generalize l[k].frm = f' at e3 HW
            generalize d.testBit j = bt at es HW
            have hj0 : decide ((0 : Int) ≤ (j : Int)) = true := decide_eq_true (by omega)
            have hj1 : decide ((j : Int) < (l.length : Int)) = true := decide_eq_true (by omega)
            have hkp : ((j : Int) != (k : Int)) = (j != k) := by
              by_cases h : j = k
              · subst h; simp
              · rw [bne_iff_ne.2 h, bne_iff_ne.2 (by omega)]
            cases bt with
            | true =>
              have HO : Hid (waitsB l d k j = false) := by show _ = _; rw [HW.out]; simp
              go_wp2_with fail
              refine wp_region_quiet_lit (by kernel_rfl) (by kernel_rfl) ?_
              repeat (go_big_quiet_step (fail))
              refine wpQuiet_nil ?_
              intro _ hw'
              obtain ⟨nq, hw2⟩ := hw'
              subst hw2
              go_wp2_with fail
              go_roundw
              case rel => exact ⟨j + 1, by omega, by go_num, HN1.out HO.out, Row.below HTR.out (below_drewN (Below.refl _ _) _), HSE.out.below (below_drewN (Below.refl _ _) _) hgr, hgr, below_drewN HB.out _⟩
              case measure => simp [intOf]; omega
            | false =>
              rcases h0 : (j != k) with _ | _
              · have HO : Hid (waitsB l d k j = false) := by show _ = _; rw [HW.out, h0]; rfl
                rw [h0] at hkp
                clear h0
                go_wp2_with fail
                refine wp_region_quiet_lit (by kernel_rfl) (by kernel_rfl) ?_
                repeat (go_big_quiet_step (fail))
                refine wpQuiet_nil ?_
                intro _ hw'
                obtain ⟨nq, hw2⟩ := hw'
                subst hw2
                go_wp2_with fail
                go_roundw
                case rel => exact ⟨j + 1, by omega, by go_num, HN1.out HO.out, Row.below HTR.out (below_drewN (Below.refl _ _) _), HSE.out.below (below_drewN (Below.refl _ _) _) hgr, hgr, below_drewN HB.out _⟩
                case measure => simp [intOf]; omega
              · rw [h0] at hkp
                rcases h1 : (t' != 0) with _ | _
                · have HO : Hid (waitsB l d k j = false) := by show _ = _; rw [HW.out, h1]; simp
                  clear h0
                  go_wp2_with fail
                  refine wp_region_quiet_lit (by kernel_rfl) (by kernel_rfl) ?_
                  repeat (go_big_quiet_step (fail))
                  refine wpQuiet_nil ?_
                  intro _ hw'
                  obtain ⟨nq, hw2⟩ := hw'
                  subst hw2
                  go_wp2_with fail
                  go_roundw
                  case rel => exact ⟨j + 1, by omega, by go_num, HN1.out HO.out, Row.below HTR.out (below_drewN (Below.refl _ _) _), HSE.out.below (below_drewN (Below.refl _ _) _) hgr, hgr, below_drewN HB.out _⟩
                  case measure => simp [intOf]; omega
                · by_cases h2 : t' < f'
                  · have HO : Hid (waitsB l d k j = true) := by show _ = _; rw [HW.out, h0, h1, decide_eq_true h2]; rfl
                    have d2 : decide (t' < f') = true := decide_eq_true h2
                    clear h0 h2
                    go_wp2_with fail
                    refine wp_region_quiet_lit (by kernel_rfl) (by kernel_rfl) ?_
                    repeat (go_big_quiet_step (fail))
                    refine wpQuiet_nil ?_
                    intro _ hw'
                    obtain ⟨nq, hw2⟩ := hw'
                    subst hw2
                    go_wp2_with fail
                    go_returns
                    exact ⟨by rw [HHIT.out HO.out]; rfl, below_drewN HB.out _⟩
                  · have HO : Hid (waitsB l d k j = false) := by show _ = _; rw [HW.out, decide_eq_false h2]; simp
                    have d2 : decide (t' < f') = false := decide_eq_false h2
                    clear h0 h2
                    go_wp2_with fail
                    refine wp_region_quiet_lit (by kernel_rfl) (by kernel_rfl) ?_
                    repeat (go_big_quiet_step (fail))
                    refine wpQuiet_nil ?_
                    intro _ hw'
                    obtain ⟨nq, hw2⟩ := hw'
                    subst hw2
                    go_wp2_with fail
                    go_roundw
                    case rel => exact ⟨j + 1, by omega, by go_num, HN1.out HO.out, Row.below HTR.out (below_drewN (Below.refl _ _) _), HSE.out.below (below_drewN (Below.refl _ _) _) hgr, hgr, below_drewN HB.out _⟩
                    case measure => simp [intOf]; omega
          · obtain rfl : j = l.length := by omega
            have hwt : waitsL l d k = false := HAN.out
            have hq1 : decide ((l.length : Int) < (l.length : Int)) = false := decide_eq_false (by omega)
            have hxr2 : Hid (∀ w', Below w.heap.size w w' → w'.rangeAt b (o + k * 20) (HCall.cells l[k])) := fun w' hb => hxr.out k hk w' hb
            clear hxr HAN
            have hxr := hxr2
            clear hxr2
            have HBAD := Lib.hid (fun h1 h2 => run_bad (ks := os.drop (i + 1)) (d := d) (t := t) hk h1 h2)
            have HTG := Lib.hid (fun h1 => run_go (ks := os.drop (i + 1)) (t := t) hk hb hwt h1)
            have HDT : Hid (tabOk (doF t l[k].cmd).1 = true) := tabOk_do HOK.out
            clear HFR
            generalize l[k] = x at hxr HBAD HTG HDT
            obtain ⟨y, f, to, an⟩ := x
            dsimp only at HBAD HTG HDT
            have HDOC := Lib.hid (fun w' hr => refdo_any t y a t.length c w' rfl (by omega) hr)
            rcases hdo : doF t y with ⟨t5, y2⟩
            rw [hdo] at HBAD HTG HDT HDOC
            dsimp only at HBAD HTG HDT HDOC
            clear hdo hb hwt
            go_wp2_with (first
              | (refine wpList_store_field rfl (.tmp 83) (.const (.bool true)) rfl (by kernel_rfl) g k (seenL l.length d) (.bool true) rfl rfl rfl rfl HSE.out (by rw [seenL_len]; exact hk) ?_; intro w4 hb4 hw4; have HSE4 : Hid (Box w4 g (seenL l.length (d ||| 2 ^ k))) := (by have h := hb4; rw [seenL_set hk] at h; exact h); have HB4 := Lib.hid (HB.out.trans (hw4.below _ hs1)); have HT4 : Hid (LRow layFce w4 a t) := row_wrote HTR.out hw4 HNR.out (Nat.lt_succ_self _); have hg4 : g < w4.heap.size := (by rw [hw4.size]; exact hgr); have HCM : Hid (w4.rangeAt b (o + k * 20) y.cells) := cmd_range (hxr.out w4 HB4.out); clear hb4 hw4)
              | (refine wpList_load_as layHcm rfl (.tmp 89) rfl b (o + k * 20) rfl y (HCmd.agg y) rfl HCM.out ?_)
              | (go_at_call 10; ((with_reducible refine (HDOC.out _ HT4.out).mono ?_); rintro e w5 ⟨a5, c5, rfl, hle5, hno5, hr5, hnr5, hb5⟩; have HB5 := Lib.hid (HB4.out.trans (hb5.mono HB4.out.size)); have HR5 := Lib.hid hr5; have HO5 := Lib.hid hno5; have HS5 := Lib.hid (HSE4.out.below hb5 hg4); have HN5 : Hid (Near (g + 1) none a5) := near_le hnr5 hg4; have hs5 := hb5.size; clear hr5 hnr5 hno5 hb5))
              | (refine wpList_store_box layAns rfl (.tmp 12) (.tmp 93) rfl y2 rfl rfl rfl ?_; intro w6 hw6 ht6 hb6 hs6; have HR6 := Lib.hid (LRow.below HR5.out hb6); have HA6 : Hid (Box w6 w5.heap.size y2.cells) := ⟨hw6, ht6⟩; have HB6 := Lib.hid (HB5.out.trans (hb6.mono HB5.out.size)); have HS6 := Lib.hid (HS5.out.below hb6 (by omega)); have hg6 : g < w6.heap.size := Nat.lt_of_lt_of_le (Nat.lt_of_lt_of_le hg4 hs5) hb6.size; clear hw6 ht6 hb6 hs6))
            clear HCM HT4
            have e3 : w6.cell? ⟨b, o + k * 20 + 14, none⟩ = some (.int .i64 to) := hxr.out w6 HB6.out 14 _ rfl
            have hl5 := tabOk_len HDT.out
            rcases hto : (to != 0) with _ | _
            · have HTO : Hid (to = 0 ∨ y2 = an) := .inl (by simpa using hto)
              (try simp only [Act.put])
              refine wp_region_quiet_lit (by kernel_rfl) (by kernel_rfl) ?_
              repeat (go_big_quiet_step (fail))
              refine wpQuiet_nil ?_
              intro w7 hw'
              obtain ⟨nq, hw2⟩ := hw'
              have hb7 : Below w6.heap.size w6 w7 := by rw [hw2]; exact below_drewN (Below.refl _ _) _
              clear hw2
              have HR7 := Lib.hid (LRow.below HR6.out hb7)
              have HB7 := Lib.hid (HB6.out.trans (hb7.mono HB6.out.size))
              have HS7 := Lib.hid (HS6.out.below hb7 hg6)
              have hg7 : g < w7.heap.size := Nat.lt_of_lt_of_le hg6 hb7.size
              clear hb7 e3
              obtain ⟨D, hD⟩ : ∃ D, D = d ||| 2 ^ k := ⟨_, rfl⟩
              have hD6 : D < 65536 := by rw [hD]; exact or_lt d k hd hk16
              have HRN : Hid (runT l (os.drop (i + 1)) D t5 = res) := by show _ = _; rw [hD, ← HTG.out HTO.out]; exact HRI2.out
              rw [← hD] at HS7
              clear hD
              go_wp2_with fail
              go_roundw
              case rel => exact ⟨i + 1, D, a5, c5, t5, by omega, by go_num, rfl, hD6, hl5, hle5, HO5.out, HDT.out, HR7.out, HN5.out, HRN.out, HS7.out, hg7, HB7.out⟩
              case measure => simp [intOf]; omega
            · have c0 := HA6.out.cell (j := 0) rfl
              have c1' := HA6.out.cell (j := 1) rfl
              have c2' := HA6.out.cell (j := 2) rfl
              have c3 := HA6.out.cell (j := 3) rfl
              have c4 := HA6.out.cell (j := 4) rfl
              have HAN : Hid (w6.rangeAt b (o + k * 20 + 15) an.cells) := ans_range (hxr.out w6 HB6.out)
              have d0' : w6.cell? ⟨b, o + k * 20 + 15, none⟩ = some (.int .i64 an.e) := HAN.out 0 _ rfl
              have d1' : w6.cell? ⟨b, o + k * 20 + 16, none⟩ = some (.int .i64 an.rate) := HAN.out 1 _ rfl
              have d2' : w6.cell? ⟨b, o + k * 20 + 17, none⟩ = some (.int .i64 an.burst) := HAN.out 2 _ rfl
              have d3' : w6.cell? ⟨b, o + k * 20 + 18, none⟩ = some (.int .i64 an.lease) := HAN.out 3 _ rfl
              have d4' : w6.cell? ⟨b, o + k * 20 + 19, none⟩ = some (.int .i64 an.size) := HAN.out 4 _ rfl
              have hq := fun w => aneq_run y2 an w
              have HTZ : Hid (to ≠ 0) := by show to ≠ 0; simpa using hto
              by_cases hya : y2 = an
              · have HTO : Hid (to = 0 ∨ y2 = an) := .inr hya
                rw [decide_eq_true hya] at hq
                clear hya HAN
                (try simp only [Act.put])
                refine wp_region_quiet_lit (by kernel_rfl) (by kernel_rfl) ?_
                repeat (go_big_quiet_step (fail))
                refine wpQuiet_nil ?_
                intro w7 hw'
                obtain ⟨nq, hw2⟩ := hw'
                have hb7 : Below w6.heap.size w6 w7 := by rw [hw2]; exact below_drewN (Below.refl _ _) _
                clear hw2
                clear c0 c1' c2' c3 c4 d0' d1' d2' d3' d4' hq
                have HR7 := Lib.hid (LRow.below HR6.out hb7)
                have HB7 := Lib.hid (HB6.out.trans (hb7.mono HB6.out.size))
                have HS7 := Lib.hid (HS6.out.below hb7 hg6)
                have hg7 : g < w7.heap.size := Nat.lt_of_lt_of_le hg6 hb7.size
                clear hb7 e3
                obtain ⟨D, hD⟩ : ∃ D, D = d ||| 2 ^ k := ⟨_, rfl⟩
                have hD6 : D < 65536 := by rw [hD]; exact or_lt d k hd hk16
                have HRN : Hid (runT l (os.drop (i + 1)) D t5 = res) := by show _ = _; rw [hD, ← HTG.out HTO.out]; exact HRI2.out
                rw [← hD] at HS7
                clear hD
                go_wp2_with fail
                go_roundw
                case rel => exact ⟨i + 1, D, a5, c5, t5, by omega, by go_num, rfl, hD6, hl5, hle5, HO5.out, HDT.out, HR7.out, HN5.out, HRN.out, HS7.out, hg7, HB7.out⟩
                case measure => simp [intOf]; omega
              · have HO : Hid (res = false) := by show _ = _; rw [← HRI2.out]; exact HBAD.out HTZ.out hya
                rw [decide_eq_false hya] at hq
                clear hya HAN
                (try simp only [Act.put])
                refine wp_region_quiet_lit (by kernel_rfl) (by kernel_rfl) ?_
                repeat (go_big_quiet_step (fail))
                refine wpQuiet_nil ?_
                intro w7 hw'
                obtain ⟨nq, hw2⟩ := hw'
                have hb7 : Below w6.heap.size w6 w7 := by rw [hw2]; exact below_drewN (Below.refl _ _) _
                clear hw2
                go_wp2_with fail
                go_returns
                exact ⟨by rw [HO.out]; rfl, HB6.out.trans (hb7.mono HB6.out.size)⟩
      · rw [hb] at es
        have HO : Hid (res = false) := by show _ = _; rw [← HRI2.out]; exact run_no (.inl hb)
        clear hb
        go_wp2
        go_returns
        exact ⟨by rw [HO.out]; rfl, HB.out⟩
    · obtain rfl : i = os.length := by omega
      have hq0 : decide ((os.length : Int) < (os.length : Int)) = false := decide_eq_false (by omega)
      have HO : Hid (wholeL l d = res) := by have h := HRI.out; rw [List.drop_length] at h; exact h
      have HBD : Hid (∀ j, j < l.length → wholeB l d j = false → res = false) := fun j h h2 => by rw [← HO.out]; exact range_all_bad h h2
      have HGD : Hid ((List.range l.length).all (wholeB l d) = true → res = true) := fun h => by rw [← HO.out]; exact h
      go_wp2_with fail
      go_loopw [13] (fun s13 ws => ∃ j : Nat, j ≤ l.length ∧ s13 = .int .i64 j ∧ Hid ((List.range j).all (wholeB l d) = true) ∧ Hid (Box ws g (seenL l.length d)) ∧ Hid (Below w.heap.size w ws)) (fun s13 _ => l.length - (intOf s13).toNat)
      case atStart => exact ⟨0, by omega, rfl, rfl, HSE.out, HB.out⟩
      case round =>
        clear HTR HSE hgr HB
        obtain ⟨j, hj, rfl, HAN, HSE, HB⟩ := hrel
        by_cases hjl : j < l.length
        · obtain ⟨b, o, ha1, hcs⟩ := LRow.range H1.out hjl
          subst ha1
          have e2 : wr.cell? ⟨b, o + j * 20 + 14, none⟩ = some (.int .i64 l[j].to) := hcs _ HB.out 14 _ rfl
          have es := HSE.out.cell (seenL_at (d := d) hjl)
          have HW : Hid (wholeB l d j = (l[j].to == 0 || d.testBit j)) := by show _ = _; unfold wholeB; rw [toAt_eq hjl]
          have HB1' := Lib.hid (HBD.out j hjl)
          have HN1 := Lib.hid (range_all hjl HAN.out)
          have hj0 : decide ((0 : Int) ≤ (j : Int)) = true := decide_eq_true (by omega)
          have hj1 : decide ((j : Int) < (l.length : Int)) = true := decide_eq_true (by omega)
          generalize l[j].to = t' at e2 HW
          generalize d.testBit j = bt at es HW
          clear hcs
          rcases h1 : (t' != 0) with _ | _
          · have HO2 : Hid (wholeB l d j = true) := by show _ = _; rw [HW.out, eqz_ne _ h1]; rfl
            go_wp2
            go_roundw
            case rel => exact ⟨j + 1, by omega, by go_num, HN1.out HO2.out, HSE.out, HB.out⟩
            case measure => simp [intOf]; omega
          · cases bt with
            | false =>
              have HO2 : Hid (wholeB l d j = false) := by show _ = _; rw [HW.out, eqz_ne _ h1]; rfl
              go_wp2
              go_returns
              exact ⟨by rw [HB1'.out HO2.out]; rfl, HB.out⟩
            | true =>
              have HO2 : Hid (wholeB l d j = true) := by show _ = _; rw [HW.out]; simp
              go_wp2
              go_roundw
              case rel => exact ⟨j + 1, by omega, by go_num, HN1.out HO2.out, HSE.out, HB.out⟩
              case measure => simp [intOf]; omega
        · obtain rfl : j = l.length := by omega
          have HO2 := Lib.hid (HGD.out HAN.out)
          have hq1 : decide ((l.length : Int) < (l.length : Int)) = false := decide_eq_false (by omega)
          go_wp2
          go_returns
          exact ⟨by rw [HO2.out]; rfl, HB.out⟩
end Go.Proofs.YtkboojpkkhiceaaDoor
