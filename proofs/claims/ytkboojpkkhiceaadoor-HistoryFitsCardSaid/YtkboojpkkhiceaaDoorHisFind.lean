import Derived.Test.YtkboojpkkhiceaaDoorHisFindA
import Derived.Test.YtkboojpkkhiceaaDoorHisRefCheck
import Derived.Test.YtkboojpkkhiceaaDoorPackHistoryDoes1
import Derived.Deep.RegionHeld3
import Derived.StillTailTactics
import Derived.WalkMore
import Derived.BigQuiet
set_option linter.unusedVariables false
set_option linter.unusedSimpArgs false
/- The search for an order, the program's side: call by call. (printed by gen_hisfind.py) -/
namespace Go.Proofs.YtkboojpkkhiceaaDoor
open Go.ChangeShapes Go.WideShapes Go.ChangeAt Go.RowKit Go.Maps
set_option maxRecDepth 100000

theorem aneq_run (t u : Ans) (w : World) : (binOp .neq 31 t.agg u.agg).run Tryd.prog w = .ok (.bool (!decide (t = u))) w := by
  have h := aeq_run t u w
  rw [run_neq_struct, h]; rfl
theorem bitN {d k : Nat} (hd : d < 65536) (hk : k < 16) : bits .or .u16 (d : Int) (2 ^ k) = ((d ||| 2 ^ k : Nat) : Int) := by
  have := or_bit d k hd hk
  rw [Int.natCast_pow] at this; exact this
theorem room_all {n k u : Nat} (hk : k < 12) : n + (k + 1) * roomN u ≤ n + roomN (u + 1) := by
  have h1 : (k + 1) * roomN u ≤ 12 * roomN u := Nat.mul_le_mul_right _ (by omega)
  have h2 : roomN (u + 1) = 1 + 12 * roomN u := rfl
  omega
theorem wrap_pow {k : Nat} (hk : k < 16) : IntKind.u16.wrap (2 ^ k) = 2 ^ k := by
  have h2 : 2 ^ k < 2 ^ 16 := Nat.pow_lt_pow_right (by decide) hk
  have h3 : ((2 ^ k : Nat) : Int) = (2 : Int) ^ k := by rw [Int.natCast_pow]; rfl
  rw [← h3]
  exact wraps_u16 _ (Int.natCast_nonneg _) (by omega)
theorem room_next {n nr k u : Nat} (h : nr ≤ n + k * roomN u) (hk : k < 12) (hn : n + roomN (u + 1) ≤ 9000000000000000000) : nr + roomN u ≤ 9000000000000000000 ∧ nr + roomN u ≤ n + (k + 1) * roomN u := by
  have h1 : (k + 1) * roomN u ≤ 12 * roomN u := Nat.mul_le_mul_right _ (by omega)
  have h2 : roomN (u + 1) = 1 + 12 * roomN u := rfl
  have h3 : (k + 1) * roomN u = k * roomN u + roomN u := Nat.succ_mul _ _
  omega
theorem room_step {n nr k u : Nat} (h : nr ≤ n + k * roomN u) : nr ≤ n + (k + 1) * roomN u := by
  have h3 : (k + 1) * roomN u = k * roomN u + roomN u := Nat.succ_mul _ _
  omega
theorem room_end {n nr k u : Nat} (h : nr ≤ n + k * roomN u) (hk : k ≤ 12) : nr + 1 ≤ n + roomN (u + 1) := by
  have h1 : k * roomN u ≤ 12 * roomN u := Nat.mul_le_mul_right _ hk
  have h2 : roomN (u + 1) = 1 + 12 * roomN u := rfl
  omega
set_option maxHeartbeats 16000000 in
theorem find_go (l : List HCall) (al : Option Addr) (cl E B gl gs go gf mb : Nat) (G : Geo E B gl gs go gf mb) (hal : ∀ b o s, al = some ⟨b, o, s⟩ → b < E) (hl : l.length ≤ 12) (u : Nat) (IH : ∀ (d : Nat) (t : List Force) (a : Option Addr) (c : Nat) (w : World) (os : List Nat) (ao : Option Addr) (co n : Nat) (seen : Nat × List UInt8 → Bool), d < 65536 → tabOk t = true → (a = none → c = 0) → t.length ≤ c → LRow layFce w a t → (t = [] ∨ Away go mb ao a) →
      Env l al cl B gl gs go gf mb w os ao co n seen → SeenOk l seen → Lib.TabBelow Tryd.prog E w "internal/strconv.uint64pow10" .u64 Lib.pow10Tab → undone l d ≤ u → os.length + u ≤ 1000 → n + roomN u ≤ 9000000000000000000 → E ≤ w.heap.size →
      Calls Tryd.prog 33 #[.int .u16 d, .slice a t.length c, .pointer (some ⟨gl, 0, none⟩), .pointer (some ⟨gs, 0, none⟩), .pointer (some ⟨go, 0, none⟩), .pointer (some ⟨gf, 0, none⟩)] w (RetFind l al cl B gl gs go gf mb u os ao n d t w))
    (d : Nat) (t : List Force) (a : Option Addr) (c : Nat) (w : World) (os : List Nat) (ao : Option Addr) (co n : Nat) (seen : Nat × List UInt8 → Bool) (hd : d < 65536) (hok : tabOk t = true) (hc : a = none → c = 0) (hnc : t.length ≤ c) (hr : LRow layFce w a t) (ha : t = [] ∨ Away go mb ao a)
    (he : Env l al cl B gl gs go gf mb w os ao co n seen) (hs : SeenOk l seen) (hT : Lib.TabBelow Tryd.prog E w "internal/strconv.uint64pow10" .u64 Lib.pow10Tab) (hu : undone l d ≤ u + 1) (hos : os.length + (u + 1) ≤ 1000) (hn : n + roomN (u + 1) ≤ 9000000000000000000) (hE : E ≤ w.heap.size) (hw : wholeL l d = false) (hse : seen (d, keyB t) = false) :
    Calls Tryd.prog 33 #[.int .u16 d, .slice a t.length c, .pointer (some ⟨gl, 0, none⟩), .pointer (some ⟨gs, 0, none⟩), .pointer (some ⟨go, 0, none⟩), .pointer (some ⟨gf, 0, none⟩)] w (RetFind l al cl B gl gs go gf mb (u + 1) os ao n d t w) := by
  have hlen := tabOk_len hok
  have HKEY := Lib.hid (key_any t a t.length c w rfl (by omega) hr (tab_ini hok) hT.here)
  have HE := Lib.hid he
  have HS := Lib.hid hs
  have HW := Lib.hid hw
  have HSE := Lib.hid hse
  have HOK := Lib.hid hok
  have hl0 : 0 < l.length := by
    rcases Nat.eq_zero_or_pos l.length with h | h
    · exfalso; unfold wholeL at hw; rw [h] at hw; cases hw
    · exact h
  obtain ⟨b, o, hab, -⟩ := LRow.range he.rl hl0
  have HAL := Lib.hid hal
  have HA := Lib.hid ha
  have HR := Lib.hid hr
  have HTT := Lib.hid hT
  have HIH := Lib.hid IH
  have HG := Lib.hid G
  have HHIT := Lib.hid (fun (k : Nat) (r : List Nat) (hk : k < l.length) (h : T l d t k = none) (h2 : tryK l (S l) d t k = some r) => T_hit hl hw hk h h2)
  have HEND : Hid (T l d t l.length = none → S l d t = none) := fun h => by rw [T_end hl hw]; exact h
  have HPL := Lib.hid (fun b o s e => (own_place he.ow b o s e))
  have hcf := enter_find
  subst hab
  clear hw hse hal ha hr hT IH G he hs hok
  go_enter Tryd.func33, Tryd.ntmps33
  go_wp2_with fail
  go_step3
  go_wp2_with (first
    | (go_at_call 34; ((with_reducible refine HKEY.out.mono ?_); rintro e w1 ⟨rfl, hb1⟩; have HE1 := Lib.hid (HE.out.next hb1); have hB1 := Lib.hid hb1; have hs1 := hb1.size; clear hb1))
    | (refine wpList_store_box laySpot rfl (.tmp 9) (.tmp 16) rfl (d, keyB t) rfl rfl rfl ?_; intro w2 hw2 ht2 hb2 hs2; have HE2 := Lib.hid (HE1.out.next hb2); have HX2 : Hid (Box w2 w1.heap.size [.int .u16 d, .string ⟨(keyB t).toArray⟩]) := ⟨hw2, ht2⟩; have hB2 := Lib.hid (hB1.out.trans (hb2.mono hs1)); have hsz2 := hs2; have e1 := HE2.out.bl.cell (j := 0) rfl; clear hw2 ht2 hb2 hs2)
    | (go_at_call 35; ((with_reducible refine (whole_any l d _ l.length cl w2 rfl hl hd HE2.out.rl).mono ?_); rw [HW.out]; rintro e w3 ⟨rfl, hb3⟩; have HE3 := Lib.hid (HE2.out.next hb3); have HX3 := Lib.hid (HX2.out.next (by simp) hb3); have hB3 := Lib.hid (hB2.out.trans (hb3.mono hB2.out.size)); have hs3 := hb3.size; clear hb3 e1; have e1 := HE3.out.bl.cell (j := 0) rfl; have e2 := HE3.out.bs.cell (j := 0) rfl))
    | (refine wpList_load_as laySpot rfl (.tmp 9) rfl w1.heap.size 0 rfl (d, keyB t) (.agg #[.int .u16 d, .string ⟨(keyB t).toArray⟩]) rfl HX3.out.range ?_)
    | (at_lookup; refine wpList_getB keySpot Tryd.underlying62 Tryd.underlying4 zero_bool rfl (.tmp 22) (.tmp 23) rfl mb n seen rfl HE3.out.mp (d, keyB t) ⟨hd, (show (keyB t).length ≤ 2000 by have := keyB_small HOK.out; omega)⟩ rfl ?_; rw [HSE.out]))
  clear e2 HKEY
  go_step3
  go_wp2_with fail
  clear e1
  have hE3 : E ≤ w3.heap.size := by have := hB3.out.size; omega
  have hmx : w1.heap.size < w3.heap.size := by omega
  go_loopw [27] (fun i wr => ∃ (k : Nat) (ar : Option Addr) (cr nr : Nat) (sr : Nat × List UInt8 → Bool), k ≤ l.length ∧ i = .int .i64 k ∧ Hid (Env l (some ⟨b, o, none⟩) cl B gl gs go gf mb wr os ar cr nr sr) ∧ Hid (SeenOk l sr) ∧ nr ≤ n + k * roomN u ∧ Hid (Fr go mb ao w3 wr) ∧ Hid (Near w3.heap.size ao ar) ∧ Hid (T l d t k = none)) (fun i _ => l.length - (intOf i).toNat)
  case atStart => exact ⟨0, ao, co, n, seen, by omega, rfl, HE3.out, HS.out, by omega, .of (Below.refl _ _), Near.self _ _, T_zero _ _ _⟩
  case round =>
    obtain ⟨k, ar, cr, nr, sr, hk, rfl, HER, HSR, hnr, HFR, HNR, HTK⟩ := hrel
    clear HE1 HE2 HX2
    have e1 := HER.out.bl.cell (j := 0) rfl
    have hER : E ≤ wr.heap.size := Nat.le_trans hE3 HFR.out.size
    by_cases hlt : k < l.length
    · have hd0 : decide ((k : Int) < (l.length : Int)) = true := decide_eq_true (by omega)
      have hk16 : k < 16 := by omega
      have hk12 : k < 12 := by omega
      have hbit := and1_1 d k hd
      rcases hb : d.testBit k with _ | _
      · rw [hb] at hbit
        rcases hwt : waitsL l d k with _ | _
        · have HWT := Lib.hid hwt
          have HX := Lib.hid (LRow.range HER.out.rl hlt)
          have hxr : Hid (∀ w', LRow layCal w' (some ⟨b, o, none⟩) l → w'.rangeAt b (o + k * 20) (HCall.cells l[k])) := fun w' hr => by
            obtain ⟨b', o', e', hcs⟩ := LRow.range hr hlt
            simp only [Option.some.injEq, Addr.mk.injEq, and_true] at e'
            obtain ⟨rfl, rfl⟩ := e'
            exact hcs w' (Below.refl _ _)
          clear HX
          have HBAD := Lib.hid (fun h1 h2 => T_next HTK.out (try_bad (f := S l) (d := d) (t := t) hlt h1 h2))
          have HTG := Lib.hid (fun h1 => try_go (f := S l) (t := t) hlt hb hwt h1)
          have HUN := Lib.hid (undone_lt hlt hb)
          have HDT : Hid (tabOk (doF t l[k].cmd).1 = true) := tabOk_do HOK.out
          generalize l[k] = x at hxr HBAD HTG HDT
          obtain ⟨y, f, to, an⟩ := x
          dsimp only at HBAD HTG HDT
          rcases hdo : doF t y with ⟨t5, y2⟩
          rw [hdo] at HBAD HTG HDT
          dsimp only at HBAD HTG HDT
          have HDO := Lib.hid hdo
          clear hdo hb hwt
          go_wp2_with (first
            | (go_at_call 36; ((with_reducible refine (waits_any l d k _ l.length cl wr rfl hl hd hlt HER.out.rl).mono ?_); rw [HWT.out]; rintro e w4 ⟨rfl, hb4⟩; have HE4 := Lib.hid (HER.out.next hb4); have HF4 := Lib.hid (HFR.out.trans (Fr.of (ao := ar) hb4) HNR.out); have hE4 : E ≤ w4.heap.size := Nat.le_trans hER hb4.size; have HCM : Hid (w4.rangeAt b (o + k * 20) y.cells) := cmd_range (hxr.out w4 HE4.out.rl); have HT4 : Hid (LRow layFce w4 a t) := HF4.out.rowT (Row.below HR.out hB3.out) HA.out; have hsr4 := hb4.size; clear hb4 e1; have e1 := HE4.out.bl.cell (j := 0) rfl))
            | (refine wpList_load_as layHcm rfl (.tmp 46) rfl b (o + k * 20) rfl y (HCmd.agg y) rfl HCM.out ?_)
            | (go_at_call 9; ((with_reducible refine (hdo_any t y a t.length c w4 rfl (by omega) hc hnc HT4.out).mono ?_); rw [HDO.out]; rintro e w5 ⟨a5, c5, rfl, hle5, hno5, hr5, hnr5, hb5⟩; have HE5 := Lib.hid (HE4.out.next hb5); have HF5 := Lib.hid (HF4.out.trans (Fr.of (ao := ar) hb5) HNR.out); have HR5 := Lib.hid hr5; have HN5 := Lib.hid hnr5; have HO5 := Lib.hid hno5; have HB5 := Lib.hid hb5; have hs5 := hb5.size; clear hr5 hnr5 hno5 hb5 e1))
            | (refine wpList_store_box layAns rfl (.tmp 12) (.tmp 50) rfl y2 rfl rfl rfl ?_; intro w6 hw6 ht6 hb6 hs6; have HE6 := Lib.hid (HE5.out.next hb6); have HF6 := Lib.hid (HF5.out.trans (Fr.of (ao := ar) hb6) HNR.out); have HR6 := Lib.hid (LRow.below HR5.out hb6); have HA6 : Hid (Box w6 w5.heap.size y2.cells) := ⟨hw6, ht6⟩; have HB6 := Lib.hid (HB5.out.trans (hb6.mono hs5)); have hs6' : w5.heap.size ≤ w6.heap.size := hb6.size; clear hw6 ht6 hb6 hs6))
          clear HCM HT4
          have e1 := HE6.out.bl.cell (j := 0) rfl
          have e3 : w6.cell? ⟨b, o + k * 20 + 14, none⟩ = some (.int .i64 to) := hxr.out w6 HE6.out.rl 14 _ rfl
          have hi0 : decide ((0 : Int) ≤ (k : Int)) = true := decide_eq_true (by omega)
          rcases hto : (to != 0) with _ | _
          · have HTO : Hid (to = 0 ∨ y2 = an) := .inl (by simpa using hto)
            (try simp only [Act.put])
            refine wp_region_quiet_lit (by kernel_rfl) (by kernel_rfl) ?_
            repeat (go_big_quiet_step (fail))
            refine wpQuiet_nil ?_
            intro w7 hw'
            obtain ⟨nq, hw2⟩ := hw'
            have hb7 : Below w6.heap.size w6 w7 := by rw [hw2]; exact below_drewN (Below.refl _ _) _
            clear hw2
            have HE7 := Lib.hid (HE6.out.next hb7)
            have HF7 := Lib.hid (HF6.out.trans (Fr.of (ao := ar) hb7) HNR.out)
            have HR7 := Lib.hid (LRow.below HR6.out hb7)
            have hs7 := hb7.size
            have hsr7 : wr.heap.size ≤ w7.heap.size := Nat.le_trans (Nat.le_trans (Nat.le_trans hsr4 hs5) hs6') hs7
            have HN7 : Hid (Near w4.heap.size none a5) := HN5.out
            have HAW : Hid (t5 = [] ∨ Away go mb ar a5) := .inr fun b o s e => by
              have h1 : w4.heap.size ≤ b := by
                rcases HN7.out b o s e with h1 | ⟨_, _, h1⟩
                · exact h1
                · cases h1
              have h2 := HE4.out.siz
              exact ⟨by have := HG.out.ob; omega, by have := HG.out.mb'; omega, fun o' s' e' => by have := (own_place HE4.out.ow _ _ _ e').2; omega⟩
            clear hb7 e1 e3
            have e4 := HE7.out.bo.cell (j := 0) rfl
            go_wp2_with (first
              | (at_builtin; refine wpList_push rfl (.tmp 66) (.tmp 68) rfl B ar os.length cr os rfl rfl HE7.out.ow k rfl (by omega) HE7.out.siz ?_; intro a8 c8 w8 ho8 hg8 hn8; have HO8 := Lib.hid ho8; have HG8 := Lib.hid hg8; have HN8 := Lib.hid hn8; have HBO8 : Hid (Box w8 go [.slice ar os.length cr]) := HE7.out.gobox HG.out hg8; clear ho8 hg8 hn8 e4)
              | (refine wpList_store_field rfl (.tmp 4) (.tmp 69) rfl (by kernel_rfl) go 0 [.slice ar os.length cr] (.slice a8 (os.length + 1) c8) rfl rfl rfl rfl HBO8.out (by simp) ?_; intro w9 hb9 hw9; have HP := HE7.out.push HG.out HAL.out HG8.out HO8.out hw9 hb9; have HE9 := Lib.hid HP.1; have HF9 := Lib.hid (HF7.out.trans HP.2 HNR.out); have HB9 := Lib.hid hw9; have hs9 : w7.heap.size ≤ w9.heap.size := HP.2.size; have HR9 := Lib.hid (HP.2.rowT HR7.out HAW.out); clear HP hb9 hw9))
            have HAW9 : Hid (t5 = [] ∨ Away go mb a8 a5) := by
              by_cases h0 : t5 = []
              · exact .inl h0
              · rcases HAW.out with h5 | h5
                · exact absurd h5 h0
                · refine .inr fun b o s e => ?_
                  obtain ⟨h1, h2, h3⟩ := h5 b o s e
                  refine ⟨h1, h2, fun o' s' e' => ?_⟩
                  have h6 := row_ltT HR7.out h0 e
                  rcases HN8.out _ _ _ e' with h4 | ⟨o2, s2, h4⟩
                  · omega
                  · exact h3 _ _ h4
            obtain ⟨D, hD⟩ : ∃ D, D = d ||| 2 ^ k := ⟨_, rfl⟩
            have hor : bits .or .u16 (d : Int) (2 ^ k) = (D : Int) := by rw [hD]; exact bitN hd hk16
            have hD6 : D < 65536 := by rw [hD]; exact or_lt d k hd hk16
            rw [← hD] at HTG HUN
            have HDD := Lib.hid hD
            clear hD
            have hpw : IntKind.u16.wrap (2 ^ k) = 2 ^ k := wrap_pow hk16
            have HBE : Hid (Below E w w9) := (hB3.out.mono hE).trans (HF9.out.below HG.out (fun b o s e => (HPL.out b o s e).1) hE3)
            have hE9 : E ≤ w9.heap.size := Nat.le_trans hE HBE.out.size
            have HRM := Lib.hid (room_next hnr hk12 hn)
            have HCALL := Lib.hid (fun w' (hb : Below w9.heap.size w9 w') => HIH.out D t5 a5 c5 w' (os ++ [k]) a8 c8 nr sr hD6 HDT.out HO5.out hle5 (LRow.below HR9.out hb) HAW9.out (HE9.out.next hb) HSR.out (HTT.out.on (HBE.out.trans (hb.mono hE9))) (by have := HUN.out; omega) (by rw [List.length_append, List.length_singleton]; omega) HRM.out.1 (Nat.le_trans hE9 hb.size))
            have HK : Hid (∀ w', Box w' gf [findV gl gs go gf] → w'.cell? ⟨gf, 0, none⟩ = some (.func (.func 33) #[] #[.pointer (some ⟨gl, 0, none⟩), .pointer (some ⟨gs, 0, none⟩), .pointer (some ⟨go, 0, none⟩), .pointer (some ⟨gf, 0, none⟩)])) := fun w' h => h.cell (j := 0) rfl
            clear HO5 hle5 HDT HE4 HE5 HE6 HE7 HF4 HF5 HF6 HF7 HR5 HR6 HR7 HN5 HN7 HB5 HB6 HBO8 HO8 HG8 HAW HAW9 HR9 HBE
            have hs37 : w3.heap.size ≤ w7.heap.size := Nat.le_trans HFR.out.size (hsr7)
            have HNA : Hid (Near w3.heap.size ao a8) := near_trans HNR.out HN8.out hs37
            have hs39 : w3.heap.size ≤ w9.heap.size := Nat.le_trans hs37 hs9
            rcases hS : S l D t5 with _ | rr
            · have HSV := Lib.hid hS
              have HN := Lib.hid (T_next HTK.out (by rw [HTG.out HTO.out, hS]; rfl))
              clear hS
              refine wp_region_held_drew (S := (fun w' => w'.cell? ⟨gf, 0, none⟩ = some (.func (.func 33) #[] #[.pointer (some ⟨gl, 0, none⟩), .pointer (some ⟨gs, 0, none⟩), .pointer (some ⟨go, 0, none⟩), .pointer (some ⟨gf, 0, none⟩)]))) (by kernel_rfl) (HK.out _ HE9.out.bf.drew) (fun hHeld => ?_)
              refine wpAnyH_take (i := 0) (oi := _) (v := ?v0_q0) rfl (by kernel_rfl) (by kernel_rfl) (by kernel_rfl) (fun _ _ _ h => h) (Or.inl ⟨by rfl, ?hy0_q0⟩) (by assumption) ?rest0_q0
              case hy0_q0 =>
                intro w hSw
                (try dsimp only at hSw)
                go_simp
                rfl
              case' rest0_q0 => try simp only [Act.put, List.setIfInBounds_toArray, List.set_cons_zero, List.set_cons_succ, List.getElem_toArray, List.getElem_cons_zero, List.getElem_cons_succ]
              refine wpAnyH_take (i := 1) (oi := _) (v := ?v1_q1) rfl (by kernel_rfl) (by kernel_rfl) (by kernel_rfl) (fun _ _ _ h => h) (Or.inl ⟨by rfl, ?hy1_q1⟩) (by assumption) ?rest1_q1
              case hy1_q1 =>
                intro w hSw
                (try dsimp only at hSw)
                go_simp
                rfl
              case' rest1_q1 => try simp only [Act.put, List.setIfInBounds_toArray, List.set_cons_zero, List.set_cons_succ, List.getElem_toArray, List.getElem_cons_zero, List.getElem_cons_succ]
              refine wpAnyH_take (i := 2) (oi := _) (v := ?v2_q2) rfl (by kernel_rfl) (by kernel_rfl) (by kernel_rfl) (fun _ _ _ h => h) (Or.inl ⟨by rfl, ?hy2_q2⟩) (by assumption) ?rest2_q2
              case hy2_q2 =>
                intro w hSw
                (try dsimp only at hSw)
                go_simp
                rfl
              case' rest2_q2 => try simp only [Act.put, List.setIfInBounds_toArray, List.set_cons_zero, List.set_cons_succ, List.getElem_toArray, List.getElem_cons_zero, List.getElem_cons_succ]
              refine wpAnyH_take (i := 3) (oi := _) (v := ?v3_q3) rfl (by kernel_rfl) (by kernel_rfl) (by kernel_rfl) (fun _ _ _ h => h) (Or.inl ⟨by rfl, ?hy3_q3⟩) (by assumption) ?rest3_q3
              case hy3_q3 =>
                intro w hSw
                (try dsimp only at hSw)
                go_simp
                rfl
              case' rest3_q3 => try simp only [Act.put, List.setIfInBounds_toArray, List.set_cons_zero, List.set_cons_succ, List.getElem_toArray, List.getElem_cons_zero, List.getElem_cons_succ]
              refine wpAnyH_take (i := 4) (oi := _) (v := ?v4_q4) rfl (by kernel_rfl) (by kernel_rfl) (by kernel_rfl) (fun _ _ _ h => h) (Or.inl ⟨by rfl, ?hy4_q4⟩) (by assumption) ?rest4_q4
              case hy4_q4 =>
                intro w hSw
                (try dsimp only at hSw)
                go_simp
                rfl
              case' rest4_q4 => try simp only [Act.put, List.setIfInBounds_toArray, List.set_cons_zero, List.set_cons_succ, List.getElem_toArray, List.getElem_cons_zero, List.getElem_cons_succ]
              refine wpAnyH_take (i := 5) (oi := _) (v := ?v5_q5) rfl (by kernel_rfl) (by kernel_rfl) (by kernel_rfl) (fun _ _ _ h => h) (Or.inl ⟨by rfl, ?hy5_q5⟩) (by assumption) ?rest5_q5
              case hy5_q5 =>
                intro w hSw
                (try dsimp only at hSw)
                go_simp
                rfl
              case' rest5_q5 => try simp only [Act.put, List.setIfInBounds_toArray, List.set_cons_zero, List.set_cons_succ, List.getElem_toArray, List.getElem_cons_zero, List.getElem_cons_succ]
              refine wpAnyH_ready (rs := [6]) (by kernel_rfl) (by simp) ?_
              refine AllReadyH.cons (o := _) rfl (fun K hK => ?_) AllReadyH.nil
              go_simp
              with_reducible refine (HCALL.out _ (Below.refl _ _).drew).mono ?_
              intro e w10 hret
              rw [RetFind, HSV.out] at hret
              obtain ⟨a10, c10, n10, s10, rfl, he10, hs10, hn10, hf10, hnn10⟩ := hret
              have HE10 := Lib.hid he10
              have HS10 := Lib.hid hs10
              have HF10 := Lib.hid ((Fr.of (go := go) (mb := mb) (ao := a8) (Below.refl w9.heap.size w9).drew).trans hf10 (Near.self _ _))
              have HN10 : Hid (Near w9.heap.size a8 a10) := hnn10
              clear he10 hs10 hf10 hnn10
              clear hHeld
              refine hK.out _ _ (HK.out _ HE10.out.bf) (fun hHeld => ?_)
              clear hK K
              try simp only [Act.put, List.setIfInBounds_toArray, List.set_cons_zero, List.set_cons_succ, List.getElem_toArray, List.getElem_cons_zero, List.getElem_cons_succ]
              refine wpAnyH_done (by kernel_rfl) ?_ _
              clear hHeld
              have HEE : Hid (Env l (some ⟨b, o, none⟩) cl B gl gs go gf mb w10 (os ++ [k]) a10 c10 n10 s10) := by have h := HE10.out; rw [Option.getD_none, List.append_nil] at h; exact h
              clear HE10
              obtain ⟨g, rfl, -, -⟩ := own_head HEE.out.ow (by simp [nums])
              have HBO10 : Hid (Box w10 go [.slice (some ⟨g, 0, none⟩) (os.length + 1) c10]) := by have h := HEE.out.bo; rw [List.length_append] at h; exact h
              have e6 := HBO10.out.cell (j := 0) rfl
              have hcc : os.length + 1 ≤ c10 := by
                obtain ⟨a', c', hv, h1, -⟩ := own_slice HEE.out.ow
                simp only [Value.slice.injEq] at hv
                rw [hv.2.2, ← show (os ++ [k]).length = os.length + 1 by simp]; exact h1
              go_wp2_with (first
                | (refine wpList_store_field rfl (.tmp 4) (.tmp 81) rfl (by kernel_rfl) go 0 [.slice (some ⟨g, 0, none⟩) (os.length + 1) c10] (.slice (some ⟨g, 0, none⟩) os.length c10) rfl rfl rfl rfl HBO10.out (by simp) ?_; intro w11 hb11 hw11; have HP := HEE.out.pop HG.out HAL.out hw11 hb11; have HE11 := Lib.hid HP.1; have HF11 := Lib.hid HP.2; clear HP hb11 hw11 e6))
              go_roundw
              case rel => exact ⟨k + 1, some ⟨g, 0, none⟩, c10, n10, s10, by omega, by go_num, HE11.out, HS10.out, Nat.le_trans hn10 HRM.out.2, (HF9.out.trans HF10.out HNA.out).trans HF11.out (near_trans HNA.out HN10.out hs39), near_trans HNA.out HN10.out hs39, HN.out⟩
              case measure => simp [intOf]; omega
            · have HSV := Lib.hid hS
              have HSS := Lib.hid (HHIT.out k (k :: rr) hlt HTK.out (by rw [HTG.out HTO.out, hS]; rfl))
              clear hS
              refine wp_region_held_drew (S := (fun w' => w'.cell? ⟨gf, 0, none⟩ = some (.func (.func 33) #[] #[.pointer (some ⟨gl, 0, none⟩), .pointer (some ⟨gs, 0, none⟩), .pointer (some ⟨go, 0, none⟩), .pointer (some ⟨gf, 0, none⟩)]))) (by kernel_rfl) (HK.out _ HE9.out.bf.drew) (fun hHeld => ?_)
              refine wpAnyH_take (i := 0) (oi := _) (v := ?v0_q6) rfl (by kernel_rfl) (by kernel_rfl) (by kernel_rfl) (fun _ _ _ h => h) (Or.inl ⟨by rfl, ?hy0_q6⟩) (by assumption) ?rest0_q6
              case hy0_q6 =>
                intro w hSw
                (try dsimp only at hSw)
                go_simp
                rfl
              case' rest0_q6 => try simp only [Act.put, List.setIfInBounds_toArray, List.set_cons_zero, List.set_cons_succ, List.getElem_toArray, List.getElem_cons_zero, List.getElem_cons_succ]
              refine wpAnyH_take (i := 1) (oi := _) (v := ?v1_q7) rfl (by kernel_rfl) (by kernel_rfl) (by kernel_rfl) (fun _ _ _ h => h) (Or.inl ⟨by rfl, ?hy1_q7⟩) (by assumption) ?rest1_q7
              case hy1_q7 =>
                intro w hSw
                (try dsimp only at hSw)
                go_simp
                rfl
              case' rest1_q7 => try simp only [Act.put, List.setIfInBounds_toArray, List.set_cons_zero, List.set_cons_succ, List.getElem_toArray, List.getElem_cons_zero, List.getElem_cons_succ]
              refine wpAnyH_take (i := 2) (oi := _) (v := ?v2_q8) rfl (by kernel_rfl) (by kernel_rfl) (by kernel_rfl) (fun _ _ _ h => h) (Or.inl ⟨by rfl, ?hy2_q8⟩) (by assumption) ?rest2_q8
              case hy2_q8 =>
                intro w hSw
                (try dsimp only at hSw)
                go_simp
                rfl
              case' rest2_q8 => try simp only [Act.put, List.setIfInBounds_toArray, List.set_cons_zero, List.set_cons_succ, List.getElem_toArray, List.getElem_cons_zero, List.getElem_cons_succ]
              refine wpAnyH_take (i := 3) (oi := _) (v := ?v3_q9) rfl (by kernel_rfl) (by kernel_rfl) (by kernel_rfl) (fun _ _ _ h => h) (Or.inl ⟨by rfl, ?hy3_q9⟩) (by assumption) ?rest3_q9
              case hy3_q9 =>
                intro w hSw
                (try dsimp only at hSw)
                go_simp
                rfl
              case' rest3_q9 => try simp only [Act.put, List.setIfInBounds_toArray, List.set_cons_zero, List.set_cons_succ, List.getElem_toArray, List.getElem_cons_zero, List.getElem_cons_succ]
              refine wpAnyH_take (i := 4) (oi := _) (v := ?v4_q10) rfl (by kernel_rfl) (by kernel_rfl) (by kernel_rfl) (fun _ _ _ h => h) (Or.inl ⟨by rfl, ?hy4_q10⟩) (by assumption) ?rest4_q10
              case hy4_q10 =>
                intro w hSw
                (try dsimp only at hSw)
                go_simp
                rfl
              case' rest4_q10 => try simp only [Act.put, List.setIfInBounds_toArray, List.set_cons_zero, List.set_cons_succ, List.getElem_toArray, List.getElem_cons_zero, List.getElem_cons_succ]
              refine wpAnyH_take (i := 5) (oi := _) (v := ?v5_q11) rfl (by kernel_rfl) (by kernel_rfl) (by kernel_rfl) (fun _ _ _ h => h) (Or.inl ⟨by rfl, ?hy5_q11⟩) (by assumption) ?rest5_q11
              case hy5_q11 =>
                intro w hSw
                (try dsimp only at hSw)
                go_simp
                rfl
              case' rest5_q11 => try simp only [Act.put, List.setIfInBounds_toArray, List.set_cons_zero, List.set_cons_succ, List.getElem_toArray, List.getElem_cons_zero, List.getElem_cons_succ]
              refine wpAnyH_ready (rs := [6]) (by kernel_rfl) (by simp) ?_
              refine AllReadyH.cons (o := _) rfl (fun K hK => ?_) AllReadyH.nil
              go_simp
              with_reducible refine (HCALL.out _ (Below.refl _ _).drew).mono ?_
              intro e w10 hret
              rw [RetFind, HSV.out] at hret
              obtain ⟨a10, c10, n10, s10, rfl, he10, hs10, hn10, hf10, hnn10⟩ := hret
              have HE10 := Lib.hid he10
              have HS10 := Lib.hid hs10
              have HF10 := Lib.hid ((Fr.of (go := go) (mb := mb) (ao := a8) (Below.refl w9.heap.size w9).drew).trans hf10 (Near.self _ _))
              have HN10 : Hid (Near w9.heap.size a8 a10) := hnn10
              clear he10 hs10 hf10 hnn10
              clear hHeld
              refine hK.out _ _ (HK.out _ HE10.out.bf) (fun hHeld => ?_)
              clear hK K
              try simp only [Act.put, List.setIfInBounds_toArray, List.set_cons_zero, List.set_cons_succ, List.getElem_toArray, List.getElem_cons_zero, List.getElem_cons_succ]
              refine wpAnyH_done (by kernel_rfl) ?_ _
              clear hHeld
              go_wp2_with fail
              (((try simp only [Exit.inBlock, Exit.then]); (try rw [Exit.noGoto_ret])); go_returns)
              rw [RetFind, HSS.out]
              exact ⟨a10, c10, n10, s10, rfl, by have h := HE10.out; rw [Option.getD_some, List.append_assoc] at h; exact h, HS10.out, Nat.le_trans (Nat.le_trans hn10 HRM.out.2) (room_all hk12), ((Fr.of hB3.out).trans HF9.out (Near.self _ _)).trans (HF10.out) (near_down HNA.out hB3.out.size), near_down (near_trans HNA.out HN10.out hs39) hB3.out.size⟩
          · have c0 := HA6.out.cell (j := 0) rfl
            have c1 := HA6.out.cell (j := 1) rfl
            have c2 := HA6.out.cell (j := 2) rfl
            have c3 := HA6.out.cell (j := 3) rfl
            have c4 := HA6.out.cell (j := 4) rfl
            have HAN : Hid (w6.rangeAt b (o + k * 20 + 15) an.cells) := ans_range (hxr.out w6 HE6.out.rl)
            have d0 : w6.cell? ⟨b, o + k * 20 + 15, none⟩ = some (.int .i64 an.e) := HAN.out 0 _ rfl
            have d1 : w6.cell? ⟨b, o + k * 20 + 16, none⟩ = some (.int .i64 an.rate) := HAN.out 1 _ rfl
            have d2 : w6.cell? ⟨b, o + k * 20 + 17, none⟩ = some (.int .i64 an.burst) := HAN.out 2 _ rfl
            have d3 : w6.cell? ⟨b, o + k * 20 + 18, none⟩ = some (.int .i64 an.lease) := HAN.out 3 _ rfl
            have d4 : w6.cell? ⟨b, o + k * 20 + 19, none⟩ = some (.int .i64 an.size) := HAN.out 4 _ rfl
            have hq := fun w => aneq_run y2 an w
            have HTZ : Hid (to ≠ 0) := by show to ≠ 0; simpa using hto
            by_cases hya : y2 = an
            · have HTO : Hid (to = 0 ∨ y2 = an) := .inr hya
              rw [decide_eq_true hya] at hq
              clear hya HAN
              (try simp only [Act.put])
              refine wp_region_quiet_lit (by kernel_rfl) (by kernel_rfl) ?_
              repeat (go_big_quiet_step (fail))
              refine wpQuiet_nil ?_
              intro w7 hw'
              obtain ⟨nq, hw2⟩ := hw'
              have hb7 : Below w6.heap.size w6 w7 := by rw [hw2]; exact below_drewN (Below.refl _ _) _
              clear hw2
              clear c0 c1 c2 c3 c4 d0 d1 d2 d3 d4 hq
              have HE7 := Lib.hid (HE6.out.next hb7)
              have HF7 := Lib.hid (HF6.out.trans (Fr.of (ao := ar) hb7) HNR.out)
              have HR7 := Lib.hid (LRow.below HR6.out hb7)
              have hs7 := hb7.size
              have hsr7 : wr.heap.size ≤ w7.heap.size := Nat.le_trans (Nat.le_trans (Nat.le_trans hsr4 hs5) hs6') hs7
              have HN7 : Hid (Near w4.heap.size none a5) := HN5.out
              have HAW : Hid (t5 = [] ∨ Away go mb ar a5) := .inr fun b o s e => by
                have h1 : w4.heap.size ≤ b := by
                  rcases HN7.out b o s e with h1 | ⟨_, _, h1⟩
                  · exact h1
                  · cases h1
                have h2 := HE4.out.siz
                exact ⟨by have := HG.out.ob; omega, by have := HG.out.mb'; omega, fun o' s' e' => by have := (own_place HE4.out.ow _ _ _ e').2; omega⟩
              clear hb7 e1 e3
              have e4 := HE7.out.bo.cell (j := 0) rfl
              go_wp2_with (first
                | (at_builtin; refine wpList_push rfl (.tmp 66) (.tmp 68) rfl B ar os.length cr os rfl rfl HE7.out.ow k rfl (by omega) HE7.out.siz ?_; intro a8 c8 w8 ho8 hg8 hn8; have HO8 := Lib.hid ho8; have HG8 := Lib.hid hg8; have HN8 := Lib.hid hn8; have HBO8 : Hid (Box w8 go [.slice ar os.length cr]) := HE7.out.gobox HG.out hg8; clear ho8 hg8 hn8 e4)
                | (refine wpList_store_field rfl (.tmp 4) (.tmp 69) rfl (by kernel_rfl) go 0 [.slice ar os.length cr] (.slice a8 (os.length + 1) c8) rfl rfl rfl rfl HBO8.out (by simp) ?_; intro w9 hb9 hw9; have HP := HE7.out.push HG.out HAL.out HG8.out HO8.out hw9 hb9; have HE9 := Lib.hid HP.1; have HF9 := Lib.hid (HF7.out.trans HP.2 HNR.out); have HB9 := Lib.hid hw9; have hs9 : w7.heap.size ≤ w9.heap.size := HP.2.size; have HR9 := Lib.hid (HP.2.rowT HR7.out HAW.out); clear HP hb9 hw9))
              have HAW9 : Hid (t5 = [] ∨ Away go mb a8 a5) := by
                by_cases h0 : t5 = []
                · exact .inl h0
                · rcases HAW.out with h5 | h5
                  · exact absurd h5 h0
                  · refine .inr fun b o s e => ?_
                    obtain ⟨h1, h2, h3⟩ := h5 b o s e
                    refine ⟨h1, h2, fun o' s' e' => ?_⟩
                    have h6 := row_ltT HR7.out h0 e
                    rcases HN8.out _ _ _ e' with h4 | ⟨o2, s2, h4⟩
                    · omega
                    · exact h3 _ _ h4
              obtain ⟨D, hD⟩ : ∃ D, D = d ||| 2 ^ k := ⟨_, rfl⟩
              have hor : bits .or .u16 (d : Int) (2 ^ k) = (D : Int) := by rw [hD]; exact bitN hd hk16
              have hD6 : D < 65536 := by rw [hD]; exact or_lt d k hd hk16
              rw [← hD] at HTG HUN
              have HDD := Lib.hid hD
              clear hD
              have hpw : IntKind.u16.wrap (2 ^ k) = 2 ^ k := wrap_pow hk16
              have HBE : Hid (Below E w w9) := (hB3.out.mono hE).trans (HF9.out.below HG.out (fun b o s e => (HPL.out b o s e).1) hE3)
              have hE9 : E ≤ w9.heap.size := Nat.le_trans hE HBE.out.size
              have HRM := Lib.hid (room_next hnr hk12 hn)
              have HCALL := Lib.hid (fun w' (hb : Below w9.heap.size w9 w') => HIH.out D t5 a5 c5 w' (os ++ [k]) a8 c8 nr sr hD6 HDT.out HO5.out hle5 (LRow.below HR9.out hb) HAW9.out (HE9.out.next hb) HSR.out (HTT.out.on (HBE.out.trans (hb.mono hE9))) (by have := HUN.out; omega) (by rw [List.length_append, List.length_singleton]; omega) HRM.out.1 (Nat.le_trans hE9 hb.size))
              have HK : Hid (∀ w', Box w' gf [findV gl gs go gf] → w'.cell? ⟨gf, 0, none⟩ = some (.func (.func 33) #[] #[.pointer (some ⟨gl, 0, none⟩), .pointer (some ⟨gs, 0, none⟩), .pointer (some ⟨go, 0, none⟩), .pointer (some ⟨gf, 0, none⟩)])) := fun w' h => h.cell (j := 0) rfl
              clear HO5 hle5 HDT HE4 HE5 HE6 HE7 HF4 HF5 HF6 HF7 HR5 HR6 HR7 HN5 HN7 HB5 HB6 HBO8 HO8 HG8 HAW HAW9 HR9 HBE
              have hs37 : w3.heap.size ≤ w7.heap.size := Nat.le_trans HFR.out.size (hsr7)
              have HNA : Hid (Near w3.heap.size ao a8) := near_trans HNR.out HN8.out hs37
              have hs39 : w3.heap.size ≤ w9.heap.size := Nat.le_trans hs37 hs9
              rcases hS : S l D t5 with _ | rr
              · have HSV := Lib.hid hS
                have HN := Lib.hid (T_next HTK.out (by rw [HTG.out HTO.out, hS]; rfl))
                clear hS
                refine wp_region_held_drew (S := (fun w' => w'.cell? ⟨gf, 0, none⟩ = some (.func (.func 33) #[] #[.pointer (some ⟨gl, 0, none⟩), .pointer (some ⟨gs, 0, none⟩), .pointer (some ⟨go, 0, none⟩), .pointer (some ⟨gf, 0, none⟩)]))) (by kernel_rfl) (HK.out _ HE9.out.bf.drew) (fun hHeld => ?_)
                refine wpAnyH_take (i := 0) (oi := _) (v := ?v0_q12) rfl (by kernel_rfl) (by kernel_rfl) (by kernel_rfl) (fun _ _ _ h => h) (Or.inl ⟨by rfl, ?hy0_q12⟩) (by assumption) ?rest0_q12
                case hy0_q12 =>
                  intro w hSw
                  (try dsimp only at hSw)
                  go_simp
                  rfl
                case' rest0_q12 => try simp only [Act.put, List.setIfInBounds_toArray, List.set_cons_zero, List.set_cons_succ, List.getElem_toArray, List.getElem_cons_zero, List.getElem_cons_succ]
                refine wpAnyH_take (i := 1) (oi := _) (v := ?v1_q13) rfl (by kernel_rfl) (by kernel_rfl) (by kernel_rfl) (fun _ _ _ h => h) (Or.inl ⟨by rfl, ?hy1_q13⟩) (by assumption) ?rest1_q13
                case hy1_q13 =>
                  intro w hSw
                  (try dsimp only at hSw)
                  go_simp
                  rfl
                case' rest1_q13 => try simp only [Act.put, List.setIfInBounds_toArray, List.set_cons_zero, List.set_cons_succ, List.getElem_toArray, List.getElem_cons_zero, List.getElem_cons_succ]
                refine wpAnyH_take (i := 2) (oi := _) (v := ?v2_q14) rfl (by kernel_rfl) (by kernel_rfl) (by kernel_rfl) (fun _ _ _ h => h) (Or.inl ⟨by rfl, ?hy2_q14⟩) (by assumption) ?rest2_q14
                case hy2_q14 =>
                  intro w hSw
                  (try dsimp only at hSw)
                  go_simp
                  rfl
                case' rest2_q14 => try simp only [Act.put, List.setIfInBounds_toArray, List.set_cons_zero, List.set_cons_succ, List.getElem_toArray, List.getElem_cons_zero, List.getElem_cons_succ]
                refine wpAnyH_take (i := 3) (oi := _) (v := ?v3_q15) rfl (by kernel_rfl) (by kernel_rfl) (by kernel_rfl) (fun _ _ _ h => h) (Or.inl ⟨by rfl, ?hy3_q15⟩) (by assumption) ?rest3_q15
                case hy3_q15 =>
                  intro w hSw
                  (try dsimp only at hSw)
                  go_simp
                  rfl
                case' rest3_q15 => try simp only [Act.put, List.setIfInBounds_toArray, List.set_cons_zero, List.set_cons_succ, List.getElem_toArray, List.getElem_cons_zero, List.getElem_cons_succ]
                refine wpAnyH_take (i := 4) (oi := _) (v := ?v4_q16) rfl (by kernel_rfl) (by kernel_rfl) (by kernel_rfl) (fun _ _ _ h => h) (Or.inl ⟨by rfl, ?hy4_q16⟩) (by assumption) ?rest4_q16
                case hy4_q16 =>
                  intro w hSw
                  (try dsimp only at hSw)
                  go_simp
                  rfl
                case' rest4_q16 => try simp only [Act.put, List.setIfInBounds_toArray, List.set_cons_zero, List.set_cons_succ, List.getElem_toArray, List.getElem_cons_zero, List.getElem_cons_succ]
                refine wpAnyH_take (i := 5) (oi := _) (v := ?v5_q17) rfl (by kernel_rfl) (by kernel_rfl) (by kernel_rfl) (fun _ _ _ h => h) (Or.inl ⟨by rfl, ?hy5_q17⟩) (by assumption) ?rest5_q17
                case hy5_q17 =>
                  intro w hSw
                  (try dsimp only at hSw)
                  go_simp
                  rfl
                case' rest5_q17 => try simp only [Act.put, List.setIfInBounds_toArray, List.set_cons_zero, List.set_cons_succ, List.getElem_toArray, List.getElem_cons_zero, List.getElem_cons_succ]
                refine wpAnyH_ready (rs := [6]) (by kernel_rfl) (by simp) ?_
                refine AllReadyH.cons (o := _) rfl (fun K hK => ?_) AllReadyH.nil
                go_simp
                with_reducible refine (HCALL.out _ (Below.refl _ _).drew).mono ?_
                intro e w10 hret
                rw [RetFind, HSV.out] at hret
                obtain ⟨a10, c10, n10, s10, rfl, he10, hs10, hn10, hf10, hnn10⟩ := hret
                have HE10 := Lib.hid he10
                have HS10 := Lib.hid hs10
                have HF10 := Lib.hid ((Fr.of (go := go) (mb := mb) (ao := a8) (Below.refl w9.heap.size w9).drew).trans hf10 (Near.self _ _))
                have HN10 : Hid (Near w9.heap.size a8 a10) := hnn10
                clear he10 hs10 hf10 hnn10
                clear hHeld
                refine hK.out _ _ (HK.out _ HE10.out.bf) (fun hHeld => ?_)
                clear hK K
                try simp only [Act.put, List.setIfInBounds_toArray, List.set_cons_zero, List.set_cons_succ, List.getElem_toArray, List.getElem_cons_zero, List.getElem_cons_succ]
                refine wpAnyH_done (by kernel_rfl) ?_ _
                clear hHeld
                have HEE : Hid (Env l (some ⟨b, o, none⟩) cl B gl gs go gf mb w10 (os ++ [k]) a10 c10 n10 s10) := by have h := HE10.out; rw [Option.getD_none, List.append_nil] at h; exact h
                clear HE10
                obtain ⟨g, rfl, -, -⟩ := own_head HEE.out.ow (by simp [nums])
                have HBO10 : Hid (Box w10 go [.slice (some ⟨g, 0, none⟩) (os.length + 1) c10]) := by have h := HEE.out.bo; rw [List.length_append] at h; exact h
                have e6 := HBO10.out.cell (j := 0) rfl
                have hcc : os.length + 1 ≤ c10 := by
                  obtain ⟨a', c', hv, h1, -⟩ := own_slice HEE.out.ow
                  simp only [Value.slice.injEq] at hv
                  rw [hv.2.2, ← show (os ++ [k]).length = os.length + 1 by simp]; exact h1
                go_wp2_with (first
                  | (refine wpList_store_field rfl (.tmp 4) (.tmp 81) rfl (by kernel_rfl) go 0 [.slice (some ⟨g, 0, none⟩) (os.length + 1) c10] (.slice (some ⟨g, 0, none⟩) os.length c10) rfl rfl rfl rfl HBO10.out (by simp) ?_; intro w11 hb11 hw11; have HP := HEE.out.pop HG.out HAL.out hw11 hb11; have HE11 := Lib.hid HP.1; have HF11 := Lib.hid HP.2; clear HP hb11 hw11 e6))
                go_roundw
                case rel => exact ⟨k + 1, some ⟨g, 0, none⟩, c10, n10, s10, by omega, by go_num, HE11.out, HS10.out, Nat.le_trans hn10 HRM.out.2, (HF9.out.trans HF10.out HNA.out).trans HF11.out (near_trans HNA.out HN10.out hs39), near_trans HNA.out HN10.out hs39, HN.out⟩
                case measure => simp [intOf]; omega
              · have HSV := Lib.hid hS
                have HSS := Lib.hid (HHIT.out k (k :: rr) hlt HTK.out (by rw [HTG.out HTO.out, hS]; rfl))
                clear hS
                refine wp_region_held_drew (S := (fun w' => w'.cell? ⟨gf, 0, none⟩ = some (.func (.func 33) #[] #[.pointer (some ⟨gl, 0, none⟩), .pointer (some ⟨gs, 0, none⟩), .pointer (some ⟨go, 0, none⟩), .pointer (some ⟨gf, 0, none⟩)]))) (by kernel_rfl) (HK.out _ HE9.out.bf.drew) (fun hHeld => ?_)
                refine wpAnyH_take (i := 0) (oi := _) (v := ?v0_q18) rfl (by kernel_rfl) (by kernel_rfl) (by kernel_rfl) (fun _ _ _ h => h) (Or.inl ⟨by rfl, ?hy0_q18⟩) (by assumption) ?rest0_q18
                case hy0_q18 =>
                  intro w hSw
                  (try dsimp only at hSw)
                  go_simp
                  rfl
                case' rest0_q18 => try simp only [Act.put, List.setIfInBounds_toArray, List.set_cons_zero, List.set_cons_succ, List.getElem_toArray, List.getElem_cons_zero, List.getElem_cons_succ]
                refine wpAnyH_take (i := 1) (oi := _) (v := ?v1_q19) rfl (by kernel_rfl) (by kernel_rfl) (by kernel_rfl) (fun _ _ _ h => h) (Or.inl ⟨by rfl, ?hy1_q19⟩) (by assumption) ?rest1_q19
                case hy1_q19 =>
                  intro w hSw
                  (try dsimp only at hSw)
                  go_simp
                  rfl
                case' rest1_q19 => try simp only [Act.put, List.setIfInBounds_toArray, List.set_cons_zero, List.set_cons_succ, List.getElem_toArray, List.getElem_cons_zero, List.getElem_cons_succ]
                refine wpAnyH_take (i := 2) (oi := _) (v := ?v2_q20) rfl (by kernel_rfl) (by kernel_rfl) (by kernel_rfl) (fun _ _ _ h => h) (Or.inl ⟨by rfl, ?hy2_q20⟩) (by assumption) ?rest2_q20
                case hy2_q20 =>
                  intro w hSw
                  (try dsimp only at hSw)
                  go_simp
                  rfl
                case' rest2_q20 => try simp only [Act.put, List.setIfInBounds_toArray, List.set_cons_zero, List.set_cons_succ, List.getElem_toArray, List.getElem_cons_zero, List.getElem_cons_succ]
                refine wpAnyH_take (i := 3) (oi := _) (v := ?v3_q21) rfl (by kernel_rfl) (by kernel_rfl) (by kernel_rfl) (fun _ _ _ h => h) (Or.inl ⟨by rfl, ?hy3_q21⟩) (by assumption) ?rest3_q21
                case hy3_q21 =>
                  intro w hSw
                  (try dsimp only at hSw)
                  go_simp
                  rfl
                case' rest3_q21 => try simp only [Act.put, List.setIfInBounds_toArray, List.set_cons_zero, List.set_cons_succ, List.getElem_toArray, List.getElem_cons_zero, List.getElem_cons_succ]
                refine wpAnyH_take (i := 4) (oi := _) (v := ?v4_q22) rfl (by kernel_rfl) (by kernel_rfl) (by kernel_rfl) (fun _ _ _ h => h) (Or.inl ⟨by rfl, ?hy4_q22⟩) (by assumption) ?rest4_q22
                case hy4_q22 =>
                  intro w hSw
                  (try dsimp only at hSw)
                  go_simp
                  rfl
                case' rest4_q22 => try simp only [Act.put, List.setIfInBounds_toArray, List.set_cons_zero, List.set_cons_succ, List.getElem_toArray, List.getElem_cons_zero, List.getElem_cons_succ]
                refine wpAnyH_take (i := 5) (oi := _) (v := ?v5_q23) rfl (by kernel_rfl) (by kernel_rfl) (by kernel_rfl) (fun _ _ _ h => h) (Or.inl ⟨by rfl, ?hy5_q23⟩) (by assumption) ?rest5_q23
                case hy5_q23 =>
                  intro w hSw
                  (try dsimp only at hSw)
                  go_simp
                  rfl
                case' rest5_q23 => try simp only [Act.put, List.setIfInBounds_toArray, List.set_cons_zero, List.set_cons_succ, List.getElem_toArray, List.getElem_cons_zero, List.getElem_cons_succ]
                refine wpAnyH_ready (rs := [6]) (by kernel_rfl) (by simp) ?_
                refine AllReadyH.cons (o := _) rfl (fun K hK => ?_) AllReadyH.nil
                go_simp
                with_reducible refine (HCALL.out _ (Below.refl _ _).drew).mono ?_
                intro e w10 hret
                rw [RetFind, HSV.out] at hret
                obtain ⟨a10, c10, n10, s10, rfl, he10, hs10, hn10, hf10, hnn10⟩ := hret
                have HE10 := Lib.hid he10
                have HS10 := Lib.hid hs10
                have HF10 := Lib.hid ((Fr.of (go := go) (mb := mb) (ao := a8) (Below.refl w9.heap.size w9).drew).trans hf10 (Near.self _ _))
                have HN10 : Hid (Near w9.heap.size a8 a10) := hnn10
                clear he10 hs10 hf10 hnn10
                clear hHeld
                refine hK.out _ _ (HK.out _ HE10.out.bf) (fun hHeld => ?_)
                clear hK K
                try simp only [Act.put, List.setIfInBounds_toArray, List.set_cons_zero, List.set_cons_succ, List.getElem_toArray, List.getElem_cons_zero, List.getElem_cons_succ]
                refine wpAnyH_done (by kernel_rfl) ?_ _
                clear hHeld
                go_wp2_with fail
                (((try simp only [Exit.inBlock, Exit.then]); (try rw [Exit.noGoto_ret])); go_returns)
                rw [RetFind, HSS.out]
                exact ⟨a10, c10, n10, s10, rfl, by have h := HE10.out; rw [Option.getD_some, List.append_assoc] at h; exact h, HS10.out, Nat.le_trans (Nat.le_trans hn10 HRM.out.2) (room_all hk12), ((Fr.of hB3.out).trans HF9.out (Near.self _ _)).trans (HF10.out) (near_down HNA.out hB3.out.size), near_down (near_trans HNA.out HN10.out hs39) hB3.out.size⟩
            · have HN := Lib.hid (HBAD.out HTZ.out hya)
              rw [decide_eq_false hya] at hq
              clear hya HAN
              (try simp only [Act.put])
              refine wp_region_quiet_lit (by kernel_rfl) (by kernel_rfl) ?_
              repeat (go_big_quiet_step (fail))
              refine wpQuiet_nil ?_
              intro w7 hw'
              obtain ⟨nq, hw2⟩ := hw'
              have hb7 : Below w6.heap.size w6 w7 := by rw [hw2]; exact below_drewN (Below.refl _ _) _
              clear hw2
              go_wp2_with fail
              go_roundw
              case rel => exact ⟨k + 1, ar, cr, nr, sr, by omega, by go_num, HE6.out.next hb7, HSR.out, room_step hnr, HF6.out.trans (Fr.of (ao := ar) hb7) HNR.out, HNR.out, HN.out⟩
              case measure => simp [intOf]; omega
        · have HWT := Lib.hid hwt
          have HN := Lib.hid (T_next HTK.out (try_wait hwt))
          clear hwt
          go_wp2_with (first
            | (go_at_call 36; ((with_reducible refine (waits_any l d k _ l.length cl wr rfl hl hd hlt HER.out.rl).mono ?_); rw [HWT.out]; rintro e w4 ⟨rfl, hb4⟩; have HE4 := Lib.hid (HER.out.next hb4); have HF4 := Lib.hid (HFR.out.trans (Fr.of (ao := ar) hb4) HNR.out); have hE4 : E ≤ w4.heap.size := Nat.le_trans hER hb4.size; clear hb4 e1; have e1 := HE4.out.bl.cell (j := 0) rfl)))
          go_roundw
          case rel => exact ⟨k + 1, ar, cr, nr, sr, by omega, by go_num, HE4.out, HSR.out, room_step hnr, HF4.out, HNR.out, HN.out⟩
          case measure => simp [intOf]; omega
      · rw [hb] at hbit
        have HN := Lib.hid (T_next HTK.out (try_bit hb))
        clear hb
        go_wp2
        go_roundw
        case rel => exact ⟨k + 1, ar, cr, nr, sr, by omega, by go_num, HER.out, HSR.out, room_step hnr, HFR.out, HNR.out, HN.out⟩
        case measure => simp [intOf]; omega
    · obtain rfl : k = l.length := by omega
      have hd0 : decide ((l.length : Int) < (l.length : Int)) = false := decide_eq_false (by omega)
      have HSS := Lib.hid (HEND.out HTK.out)
      have HXR := Lib.hid (HFR.out.box HX3.out (by simp) (by have := HG.out.ob; have := HE.out.siz; omega) (by have := HG.out.mb'; have := HE.out.siz; omega) (fun o s e => by have := (HPL.out _ _ _ e).2; omega))
      have e2 := HER.out.bs.cell (j := 0) rfl
      have hrm := room_end hnr hl
      clear e1
      go_wp2_with (first
        | (refine wpList_load_as laySpot rfl (.tmp 9) rfl w1.heap.size 0 rfl (d, keyB t) (.agg #[.int .u16 d, .string ⟨(keyB t).toArray⟩]) rfl HXR.out.range ?_)
        | (refine wpList_putB keySpot Tryd.underlying62 Tryd.underlying4 rfl (.tmp 83) (.tmp 84) (.const (.bool true)) rfl mb nr sr rfl HER.out.mp (by unfold maxLen; omega) (d, keyB t) ⟨hd, (show (keyB t).length ≤ 2000 by have := keyB_small HOK.out; omega)⟩ rfl rfl ?_; intro w5 hm5 hg5; have HE5 := Lib.hid (HER.out.mark HG.out HAL.out hm5 hg5).1; have HF5 := Lib.hid (HER.out.mark HG.out HAL.out hm5 hg5).2; clear hm5 hg5))
      (((try simp only [Exit.inBlock, Exit.then]); (try rw [Exit.noGoto_ret])); go_returns)
      rw [RetFind, HSS.out]
      exact ⟨ar, cr, nr + 1, _, rfl, by rw [Option.getD_none, List.append_nil]; exact HE5.out, HSR.out.mark HOK.out HSS.out, hrm, ((Fr.of hB3.out).trans HFR.out (Near.self _ _)).trans HF5.out (near_down HNR.out (by have := hB3.out.size; omega)), near_down HNR.out (by have := hB3.out.size; omega)⟩
end Go.Proofs.YtkboojpkkhiceaaDoor
