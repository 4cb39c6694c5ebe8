import Derived.Test.YtkboojpkkhiceaaDoorHisTryP
import Derived.Test.YtkboojpkkhiceaaDoorPackHistoryDoes1
import Derived.Test.YtkboojpkkhiceaaDoorPackHistoryDoes3
import Derived.Test.YtkboojpkkhiceaaDoorHisCheck
import Derived.Test.YtkboojpkkhiceaaDoorHisRefCheck
import Derived.Test.YtkboojpkkhiceaaDoorHisFind
set_option linter.unusedVariables false
set_option linter.unusedSimpArgs false
/- An order tried, the program's side. (printed by gen_histry.py) -/
namespace Go.Proofs.YtkboojpkkhiceaaDoor
open Go.ChangeShapes Go.WideShapes Go.ChangeAt Go.RowKit
set_option maxRecDepth 100000

theorem row_ints {w : World} {a : Option Addr} {zs : List Int} (h : Row w a (zs.map (Value.int .i64))) {i : Nat} (hi : i < zs.length) : ∃ b o, a = some ⟨b, o, none⟩ ∧ ∀ w', Below w.heap.size w w' → w'.cell? ⟨b, o + i, none⟩ = some (.int .i64 zs[i]) := by
  rcases h with h | ⟨b, o, rfl, hc⟩
  · have := congrArg List.length h; simp at this; rw [this] at hi; simp at hi
  · refine ⟨b, o, rfl, fun w' hb => ?_⟩
    have h1 := hc i (by simpa using hi)
    have h2 : (zs.map (Value.int .i64))[i]'(by simpa using hi) = .int .i64 zs[i] := by simp
    rw [h2] at h1
    exact (hb.cell (p := ⟨b, o + i, none⟩) (World.block_lt_of_cell? w _ h1)).trans h1
set_option maxHeartbeats 8000000 in
theorem htry_any (l : List HCall) (os : List Int) (a1 a2 : Option Addr) (n1 c1 n2 c2 : Nat) (w : World) (h1 : l.length = n1) (h2 : os.length = n2) (k1 : n1 ≤ maxLen) (k2 : n2 ≤ maxLen) (r1 : LRow layCal w a1 l) (r2 : Row w a2 (os.map (Value.int .i64))) :
    Calls Tryd.prog 16 #[.slice a1 n1 c1, .slice a2 n2 c2] w fun e w' => e = .returned (.tuple #[.bool (tryF l os).1, .int .i64 (tryF l os).2]) ∧ Below w.heap.size w w' := by
  subst h1 h2
  have HC := Lib.hid (hcheck_any l a1 l.length c1 w rfl k1 r1)
  cases hck : chkL l with
  | false =>
    rw [hck] at HC
    rw [show tryF l os = (false, 2) by unfold tryF; rw [if_neg (by rw [hck]; simp)]]
    clear hck r1 r2
    go_enter Tryd.func16, Tryd.ntmps16
    go_wp2_with (go_at_call 12; ((with_reducible refine HC.out.mono ?_); rintro e w1 ⟨rfl, hb⟩))
    go_returns
    exact ⟨rfl, hb⟩
  | true =>
  rw [hck] at HC
  have hl12 : l.length ≤ 12 := by unfold chkL at hck; simp only [Bool.and_eq_true, decide_eq_true_eq] at hck; exact hck.1
  rw [show tryF l os = (runT l os 0 [], 0) by unfold tryF; rw [if_pos hck]]
  have hlo := lt_maxLen k2
  have HR0 : Hid (runT l (os.drop 0) 0 [] = runT l os 0 []) := rfl
  generalize runT l os 0 [] = res at HR0 ⊢
  have H1 := Lib.hid r1
  have H2 := Lib.hid r2
  clear hck r1 r2
  go_enter Tryd.func16, Tryd.ntmps16
  go_wp2_with (go_at_call 12; ((with_reducible refine HC.out.mono ?_); rintro e w1 ⟨rfl, hb⟩; have HB1 := Lib.hid hb; clear hb))
  go_loopw [6, 7, 16] (fun s6 s7 s16 wr => ∃ (i d : Nat) (a : Option Addr) (c : Nat) (t : List Force), i ≤ os.length ∧ s16 = .int .i64 i ∧ s7 = .int .u16 d ∧ s6 = .slice a t.length c ∧ d < 65536 ∧ t.length ≤ 16 ∧ t.length ≤ c ∧ Hid (a = none → c = 0) ∧ Hid (tabOk t = true) ∧ Hid (LRow layFce wr a t) ∧ Hid (runT l (os.drop i) d t = res) ∧ Hid (Below w.heap.size w wr)) (fun _ _ s16 _ => os.length - (intOf s16).toNat)
  case atStart => exact ⟨0, 0, none, 0, [], by omega, rfl, rfl, rfl, by decide, by decide, Nat.le_refl _, fun _ => rfl, rfl, .inl rfl, HR0.out, HB1.out⟩
  case round =>
    obtain ⟨i, d, a, c, t, hi, rfl, rfl, rfl, hd, hlen, hnc, HCN, HOK, HTR, HRI, HB⟩ := hrel
    by_cases hlt : i < os.length
    · obtain ⟨b2, o2, ha2, hc2⟩ := row_ints H2.out hlt
      subst ha2
      have e0 := hc2 _ HB.out
      have HRI2 : Hid (runT l (os[i] :: os.drop (i + 1)) d t = res) := by show _ = _; rw [← run_drop hlt]; exact HRI.out
      have hq0 : decide ((i : Int) < (os.length : Int)) = true := decide_eq_true (by omega)
      generalize os[i] = z at e0 HRI2
      clear hc2 HRI
      by_cases hz0 : z < 0
      · have HO : Hid (res = false) := by show _ = _; rw [← HRI2.out]; exact run_out (.inl hz0)
        have d0 : decide (z < 0) = true := decide_eq_true hz0
        clear hz0
        go_wp2
        go_returns
        exact ⟨by rw [HO.out]; rfl, HB.out⟩
      by_cases hz1 : (l.length : Int) ≤ z
      · have HO : Hid (res = false) := by show _ = _; rw [← HRI2.out]; exact run_out (.inr hz1)
        have d0 : decide (z < 0) = false := decide_eq_false hz0
        have d1 : decide ((l.length : Int) ≤ z) = true := decide_eq_true hz1
        clear hz0 hz1
        go_wp2
        go_returns
        exact ⟨by rw [HO.out]; rfl, HB.out⟩
      obtain ⟨k, rfl⟩ : ∃ k : Nat, z = (k : Int) := ⟨z.toNat, by omega⟩
      have hk : k < l.length := by omega
      have hk16 : k < 16 := by omega
      have d0 : decide ((k : Int) < 0) = false := decide_eq_false hz0
      have d1 : decide ((l.length : Int) ≤ (k : Int)) = false := decide_eq_false hz1
      clear hz0 hz1
      have hbit := and1_1 d k hd
      obtain ⟨b, o, ha1, -⟩ := LRow.range H1.out hk
      subst ha1
      rcases hb : d.testBit k with _ | _
      · rw [hb] at hbit
        have HW := Lib.hid (fun w' (hb : Below w.heap.size w w') => waits_any l d k _ l.length c1 w' rfl hl12 hd hk (LRow.below H1.out hb))
        rcases hwt : waitsL l d k with _ | _
        · rw [hwt] at HW
          have hxr : Hid (∀ w', Below w.heap.size w w' → w'.rangeAt b (o + k * 20) (HCall.cells l[k])) := fun w' hb => by
            obtain ⟨b', o', e', hcs⟩ := LRow.range H1.out hk
            simp only [Option.some.injEq, Addr.mk.injEq, and_true] at e'
            obtain ⟨rfl, rfl⟩ := e'
            exact hcs w' hb
          have HBAD := Lib.hid (fun h1 h2 => run_bad (ks := os.drop (i + 1)) (d := d) (t := t) hk h1 h2)
          have HTG := Lib.hid (fun h1 => run_go (ks := os.drop (i + 1)) (t := t) hk hb hwt h1)
          have HDT : Hid (tabOk (doF t l[k].cmd).1 = true) := tabOk_do HOK.out
          generalize l[k] = x at hxr HBAD HTG HDT
          obtain ⟨y, f, to, an⟩ := x
          dsimp only at HBAD HTG HDT
          have HDOC := Lib.hid (fun w' hr => hdo_any t y a t.length c w' rfl (by omega) HCN.out hnc hr)
          rcases hdo : doF t y with ⟨t5, y2⟩
          rw [hdo] at HBAD HTG HDT HDOC
          dsimp only at HBAD HTG HDT HDOC
          clear hdo hb hwt
          go_wp2_with (first
            | (go_at_call 36; ((with_reducible refine (HW.out _ HB.out).mono ?_); rintro e w4 ⟨rfl, hb4⟩; have HB4 := Lib.hid (HB.out.trans (hb4.mono HB.out.size)); have HT4 := Lib.hid (LRow.below HTR.out hb4); have HCM : Hid (w4.rangeAt b (o + k * 20) y.cells) := cmd_range (hxr.out w4 HB4.out); have e40 := HB4.out.size; clear hb4 e0))
            | (refine wpList_load_as layHcm rfl (.tmp 46) rfl b (o + k * 20) rfl y (HCmd.agg y) rfl (fun j v hj => (show World.cell? (w4.alloc _) _ = _ from (((Below.refl w4.heap.size w4).alloc (Nat.le_refl _) _).cell (p := ⟨b, o + k * 20 + j, none⟩) (World.block_lt_of_cell? w4 _ (HCM.out j v hj))).trans (HCM.out j v hj))) ?_)
            | (go_at_call 9; ((with_reducible refine (HDOC.out _ (LRow.below HT4.out ((Below.refl w4.heap.size w4).alloc (Nat.le_refl _) _))).mono ?_); rintro e w5 ⟨a5, c5, rfl, hle5, hno5, hr5, hnr5, hb5⟩; have HZ5 : Hid (Box w5 w4.heap.size [.int .i64 0, .int .i64 0, .int .i64 0, .int .i64 0, .int .i64 0]) := Box.of_alloc (w := w4) (t := 31) hb5; have HB5 := Lib.hid (HB4.out.trans ((mid_alloc' hb5).mono HB4.out.size)); have HR5 := Lib.hid hr5; have HO5 := Lib.hid hno5; have HN5 : Hid (Near (w4.heap.size + 1) none a5) := near_le hnr5 (by simp); clear hr5 hnr5 hno5 hb5))
            | (refine wpList_store_whole layAns rfl (.tmp 10) (.tmp 50) rfl w4.heap.size y2 [.int .i64 0, .int .i64 0, .int .i64 0, .int .i64 0, .int .i64 0] rfl rfl HZ5.out rfl ?_; intro w6 hz6 hw6; have HA6 : Hid (Box w6 w4.heap.size y2.cells) := hz6; have HB6 := Lib.hid (HB5.out.trans (hw6.below _ (by omega))); have HR6 : Hid (LRow layFce w6 a5 t5) := row_wrote HR5.out hw6 HN5.out (Nat.lt_succ_self _); clear hz6 hw6))
          clear HCM HT4
          have e3 : w6.cell? ⟨b, o + k * 20 + 14, none⟩ = some (.int .i64 to) := hxr.out w6 HB6.out 14 _ rfl
          have hi0 : decide ((0 : Int) ≤ (k : Int)) = true := decide_eq_true (by omega)
          have hi1 : decide ((k : Int) < (l.length : Int)) = true := decide_eq_true (by omega)
          have hl5 := tabOk_len HDT.out
          rcases hto : (to != 0) with _ | _
          · have HTO : Hid (to = 0 ∨ y2 = an) := .inl (by simpa using hto)
            (try simp only [Act.put])
            refine wp_region_quiet_lit (by kernel_rfl) (by kernel_rfl) ?_
            repeat (go_big_quiet_step (fail))
            refine wpQuiet_nil ?_
            intro w7 hw'
            obtain ⟨nq, hw2⟩ := hw'
            have hb7 : Below w6.heap.size w6 w7 := by rw [hw2]; exact below_drewN (Below.refl _ _) _
            clear hw2
            have HR7 := Lib.hid (LRow.below HR6.out hb7)
            have HB7 := Lib.hid (HB6.out.trans (hb7.mono HB6.out.size))
            clear hb7 e3
            obtain ⟨D, hD⟩ : ∃ D, D = d ||| 2 ^ k := ⟨_, rfl⟩
            have hor : bits .or .u16 (d : Int) (2 ^ k) = (D : Int) := by rw [hD]; exact bitN hd hk16
            have hD6 : D < 65536 := by rw [hD]; exact or_lt d k hd hk16
            have HRN : Hid (runT l (os.drop (i + 1)) D t5 = res) := by show _ = _; rw [hD, ← HTG.out HTO.out]; exact HRI2.out
            clear hD
            have hpw : IntKind.u16.wrap (2 ^ k) = 2 ^ k := wrap_pow hk16
            go_wp2_with fail
            go_roundw
            case rel => exact ⟨i + 1, D, a5, c5, t5, by omega, by go_num, rfl, rfl, hD6, hl5, hle5, HO5.out, HDT.out, HR7.out, HRN.out, HB7.out⟩
            case measure => simp [intOf]; omega
          · have c0 := HA6.out.cell (j := 0) rfl
            have c1 := HA6.out.cell (j := 1) rfl
            have c2 := HA6.out.cell (j := 2) rfl
            have c3 := HA6.out.cell (j := 3) rfl
            have c4 := HA6.out.cell (j := 4) rfl
            have HAN : Hid (w6.rangeAt b (o + k * 20 + 15) an.cells) := ans_range (hxr.out w6 HB6.out)
            have d0' : w6.cell? ⟨b, o + k * 20 + 15, none⟩ = some (.int .i64 an.e) := HAN.out 0 _ rfl
            have d1' : w6.cell? ⟨b, o + k * 20 + 16, none⟩ = some (.int .i64 an.rate) := HAN.out 1 _ rfl
            have d2' : w6.cell? ⟨b, o + k * 20 + 17, none⟩ = some (.int .i64 an.burst) := HAN.out 2 _ rfl
            have d3' : w6.cell? ⟨b, o + k * 20 + 18, none⟩ = some (.int .i64 an.lease) := HAN.out 3 _ rfl
            have d4' : w6.cell? ⟨b, o + k * 20 + 19, none⟩ = some (.int .i64 an.size) := HAN.out 4 _ rfl
            have hq := fun w => aneq_run y2 an w
            have HTZ : Hid (to ≠ 0) := by show to ≠ 0; simpa using hto
            by_cases hya : y2 = an
            · have HTO : Hid (to = 0 ∨ y2 = an) := .inr hya
              rw [decide_eq_true hya] at hq
              clear hya HAN
              (try simp only [Act.put])
              refine wp_region_quiet_lit (by kernel_rfl) (by kernel_rfl) ?_
              repeat (go_big_quiet_step (fail))
              refine wpQuiet_nil ?_
              intro w7 hw'
              obtain ⟨nq, hw2⟩ := hw'
              have hb7 : Below w6.heap.size w6 w7 := by rw [hw2]; exact below_drewN (Below.refl _ _) _
              clear hw2
              clear c0 c1 c2 c3 c4 d0' d1' d2' d3' d4' hq
              have HR7 := Lib.hid (LRow.below HR6.out hb7)
              have HB7 := Lib.hid (HB6.out.trans (hb7.mono HB6.out.size))
              clear hb7 e3
              obtain ⟨D, hD⟩ : ∃ D, D = d ||| 2 ^ k := ⟨_, rfl⟩
              have hor : bits .or .u16 (d : Int) (2 ^ k) = (D : Int) := by rw [hD]; exact bitN hd hk16
              have hD6 : D < 65536 := by rw [hD]; exact or_lt d k hd hk16
              have HRN : Hid (runT l (os.drop (i + 1)) D t5 = res) := by show _ = _; rw [hD, ← HTG.out HTO.out]; exact HRI2.out
              clear hD
              have hpw : IntKind.u16.wrap (2 ^ k) = 2 ^ k := wrap_pow hk16
              go_wp2_with fail
              go_roundw
              case rel => exact ⟨i + 1, D, a5, c5, t5, by omega, by go_num, rfl, rfl, hD6, hl5, hle5, HO5.out, HDT.out, HR7.out, HRN.out, HB7.out⟩
              case measure => simp [intOf]; omega
            · have HO : Hid (res = false) := by show _ = _; rw [← HRI2.out]; exact HBAD.out HTZ.out hya
              rw [decide_eq_false hya] at hq
              clear hya HAN
              (try simp only [Act.put])
              refine wp_region_quiet_lit (by kernel_rfl) (by kernel_rfl) ?_
              repeat (go_big_quiet_step (fail))
              refine wpQuiet_nil ?_
              intro w7 hw'
              obtain ⟨nq, hw2⟩ := hw'
              have hb7 : Below w6.heap.size w6 w7 := by rw [hw2]; exact below_drewN (Below.refl _ _) _
              clear hw2
              go_wp2_with fail
              go_returns
              exact ⟨by rw [HO.out]; rfl, HB6.out.trans (hb7.mono HB6.out.size)⟩
        · rw [hwt] at HW
          have HO : Hid (res = false) := by show _ = _; rw [← HRI2.out]; exact run_no (.inr hwt)
          clear hb hwt
          go_wp2_with (go_at_call 36; ((with_reducible refine (HW.out _ HB.out).mono ?_); rintro e w4 ⟨rfl, hb4⟩; have HB4 := Lib.hid (HB.out.trans (hb4.mono HB.out.size)); clear hb4))
          go_returns
          exact ⟨by rw [HO.out]; rfl, HB4.out⟩
      · rw [hb] at hbit
        have HO : Hid (res = false) := by show _ = _; rw [← HRI2.out]; exact run_no (.inl hb)
        clear hb
        go_wp2
        go_returns
        exact ⟨by rw [HO.out]; rfl, HB.out⟩
    · obtain rfl : i = os.length := by omega
      have hq0 : decide ((os.length : Int) < (os.length : Int)) = false := decide_eq_false (by omega)
      have HO : Hid (wholeL l d = res) := by have h := HRI.out; rw [List.drop_length] at h; exact h
      have HWH := Lib.hid (whole_any l d a1 l.length c1 wr rfl hl12 hd (LRow.below H1.out HB.out))
      rw [HO.out] at HWH
      go_wp2_with (go_at_call 35; ((with_reducible refine HWH.out.mono ?_); rintro e w2 ⟨rfl, hb⟩; have HB2 := Lib.hid (HB.out.trans (hb.mono HB.out.size)); clear hb))
      go_returns
      exact ⟨rfl, HB2.out⟩
end Go.Proofs.YtkboojpkkhiceaaDoor
