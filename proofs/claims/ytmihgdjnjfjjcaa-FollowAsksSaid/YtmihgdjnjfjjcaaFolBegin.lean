import Derived.Test.YtmihgdjnjfjjcaaPackFollowAsks5
set_option linter.unusedVariables false
set_option linter.unusedSimpArgs false
/- What a leader begins with (follow.Begin, weirref11.Begin). (printed by gen_folbegin.py) -/
namespace Go.Proofs.Ytmihgdjnjfjjcaa
open Go.ChangeShapes Go.WideShapes Go.ChangeAt Go.RowKit
set_option maxRecDepth 100000

def beg (set : Nat) (self last : Int) : Nat → List Prg
  | 0 => []
  | j + 1 => beg set self last j ++ (if (((j + 1 : Nat) : Int) != self) && inSet set (j + 1) then [⟨((j + 1 : Nat) : Int), 0, last + 1⟩] else [])
theorem beg_len (set : Nat) (self last : Int) : ∀ j, (beg set self last j).length ≤ j
  | 0 => Nat.le_refl _
  | j + 1 => by
    have := beg_len set self last j
    unfold beg
    split <;> simp <;> omega
def beginF (b t : Int) (es : List WEnt) (set : Nat) (self : Int) : List Prg := if okR b t es = true then beg set self (b + es.length) 7 else []
def RetRowP (w : World) (xs : List Prg) (e : Ending) (w' : World) : Prop := ∃ a c, e = .returned (.slice a xs.length c) ∧ LRow layPrg w' a xs ∧ Below w.heap.size w w' ∧ xs.length ≤ c
abbrev OwnP (w : World) (B : Nat) (a : Option Addr) (n c : Nat) (xs : List Prg) : Prop := w.ownsRow B 39 layPrg.size (.slice a n c) n (xs.flatMap layPrg.cells)
theorem OwnP.next {w w' : World} {B : Nat} {a : Option Addr} {n c : Nat} {xs : List Prg} (h : OwnP w B a n c xs) (hb : Below w.heap.size w w') : OwnP w' B a n c xs :=
  own_mid (B := 0) h (Mid.below hb (Nat.le_refl _)) (Nat.zero_le _) (Nat.le_refl _)
theorem OwnP.cap {w : World} {B : Nat} {a : Option Addr} {n c : Nat} {xs : List Prg} (h : OwnP w B a n c xs) : n ≤ c := by
  rcases h.2 with ⟨hv, h1⟩ | ⟨g, cap, cur, hv, hB, hg, hnc, hm, hs, ht⟩
  · omega
  · simp only [Value.slice.injEq] at hv
    obtain ⟨_, _, rfl⟩ := hv
    exact hnc
set_option maxHeartbeats 8000000 in
theorem begin_any (es : List RwE) (b t : Int) (a : Option Addr) (n c : Nat) (s : UInt8) (self : Int) (w : World) (hn : es.length = n) (hl : n ≤ 1000000) (hr : Row w a (es.flatMap cellsRw)) :
    Calls Try.prog 19 #[.agg #[.int .i64 b, .int .i64 t, .slice a n c], B s, .int .i64 self] w (RetRowP w (beginF b t (ents es) s.toNat self)) := by
  have hlen : (ents es).length = n := by rw [← hn]; exact List.length_map _
  have HB0 : Hid (Below w.heap.size w (w.alloc (.cells #[.int .i64 b, .int .i64 t, .slice a n c] 24))) := mid_alloc' (Below.refl _ _)
  have HX0 : Hid (Box (w.alloc (.cells #[.int .i64 b, .int .i64 t, .slice a n c] 24)) w.heap.size [.int .i64 b, .int .i64 t, .slice a n c]) := Box.of_alloc (w := w) (cs := [.int .i64 b, .int .i64 t, .slice a n c]) (t := 24) (Below.refl _ _)
  have HC := Lib.hid (fun w' (hb : Below w.heap.size w w') => check_any es b t a n c w' hn hl (hr.mono_below hb))
  have HLV := Lib.hid (fun w' (hb : Below w.heap.size w w') => lastV_any es b t a n c w' hn hl (hr.mono_below hb))
  have HSM := Lib.hid (fun k w' h1 h2 => has_any s k w' h1 h2)
  rcases hok : okR b t (ents es) with _ | _
  · rw [chk_not hok] at HC
    rw [show beginF b t (ents es) s.toNat self = [] from if_neg (by rw [hok]; exact Bool.false_ne_true)]
    clear hok hlen hr hn HLV HSM
    go_enter Try.func19, Try.ntmps19
    go_wp2_with (go_at_call 28; ((with_reducible refine (HC.out _ HB0.out).mono ?_); rintro e w1 ⟨rfl, hb⟩; have HB1 := Lib.hid (HB0.out.trans (hb.mono HB0.out.size)); clear hb))
    go_ret
    exact ⟨none, 0, rfl, .inl rfl, HB1.out, Nat.le_refl _⟩
  have hob := ok_bounds hok
  have hb1 : 0 ≤ b := hob.1
  have hb2 : b + (n : Int) ≤ 1099511627776 := by have := hob.2.2.1; rw [hlen] at this; exact this
  rw [chk_ok hok] at HC
  rw [lastF_ok hok, hlen] at HLV
  rw [show beginF b t (ents es) s.toNat self = beg s.toNat self (b + ((ents es).length : Int)) 7 from if_pos hok, hlen]
  generalize lastT t (ents es) = lt at HLV
  have HMM := Lib.hid (fun k => (show beg s.toNat self (b + (n : Int)) (k + 1) = beg s.toNat self (b + (n : Int)) k ++ (if (((k + 1 : Nat) : Int) != self) && inSet s.toNat (k + 1) then [⟨((k + 1 : Nat) : Int), 0, b + (n : Int) + 1⟩] else []) from rfl))
  have HM0 : Hid (beg s.toNat self (b + (n : Int)) 0 = []) := rfl
  obtain ⟨r, hrr⟩ : ∃ r, beg s.toNat self (b + (n : Int)) 7 = r := ⟨_, rfl⟩
  rw [hrr]
  have HRR := Lib.hid hrr
  clear hrr hok hlen hr hn hob
  go_enter Try.func19, Try.ntmps19
  go_wp2_with (first
    | (have hgq := HX1; clear hgq; go_at_call 29; ((with_reducible refine (HLV.out _ HB1.out).mono ?_); rintro e w2 ⟨rfl, hb⟩; have HX2 := Lib.hid (HX1.out.next (by simp) hb); have HB2 := Lib.hid (HB1.out.trans (hb.mono HB1.out.size)); clear hb))
    | (go_at_call 28; ((with_reducible refine (HC.out _ HB0.out).mono ?_); rintro e w1 ⟨rfl, hb⟩; have HX1 := Lib.hid (HX0.out.next (by simp) hb); have HB1 := Lib.hid (HB0.out.trans (hb.mono HB0.out.size)); clear hb; have k0 := HX1.out.cell (j := 0) rfl; have k1 := HX1.out.cell (j := 1) rfl; have k2 := HX1.out.cell (j := 2) rfl)))
  clear k0 k1 k2
  go_loopw [9, 10] (fun mt nn wr => ∃ (k : Nat) (a1 : Option Addr) (c1 : Nat) (ml : List Prg), 1 ≤ k ∧ k ≤ 8 ∧ nn = .int .i64 k ∧ mt = .slice a1 ml.length c1 ∧ Hid (beg s.toNat self (b + (n : Int)) (k - 1) = ml) ∧ ml.length ≤ k - 1 ∧ Hid (OwnP wr w.heap.size a1 ml.length c1 ml) ∧ Hid (Below w.heap.size w wr)) (fun _ nn _ => 8 - (intOf nn).toNat)
  case atStart => exact ⟨1, none, 0, [], by omega, by omega, rfl, rfl, HM0.out, by simp, World.ownsRow_nil _ _ _ _, HB2.out⟩
  case round =>
    clear HB0 HX0 HX1 HB1 HX2 HB2 HM0 HC HLV
    obtain ⟨k, a1, c1, ml, hk1, hk8, rfl, rfl, HE, hm7, HOW, HBL⟩ := hrel
    by_cases h7 : k ≤ 7
    · have HS := Lib.hid (fun w' => HSM.out k w' hk1 h7)
      have ek : k - 1 + 1 = k := by omega
      have HE2 := Lib.hid (HMM.out (k - 1))
      rw [ek, HE.out] at HE2
      have hsz := HBL.out.size
      clear HSM HMM ek
      rcases he : ((k : Int) != self) with _ | _
      · rw [he, Bool.false_and] at HE2
        go_wp2_with (go_at_call 30; ((with_reducible refine (HS.out _).mono ?_); rintro e w3 ⟨rfl, rfl⟩))
        go_roundw
        case rel => exact ⟨k + 1, a1, c1, ml, by omega, by omega, by go_num, rfl, (by show beg _ _ _ (k + 1 - 1) = _; rw [Nat.add_sub_cancel, HE2.out]; simp), by omega, HOW.out, HBL.out⟩
        case measure => simp [intOf]; omega
      · rw [he, Bool.true_and] at HE2
        rcases hin : inSet s.toNat k with _ | _
        all_goals rw [hin] at HS HE2
        · go_wp2_with (go_at_call 30; ((with_reducible refine (HS.out _).mono ?_); rintro e w3 ⟨rfl, rfl⟩))
          go_roundw
          case rel => exact ⟨k + 1, a1, c1, ml, by omega, by omega, by go_num, rfl, (by show beg _ _ _ (k + 1 - 1) = _; rw [Nat.add_sub_cancel, HE2.out]; simp), by omega, HOW.out, HBL.out⟩
          case measure => simp [intOf]; omega
        · go_wp2_with (first
            | (at_builtin; refine wpList_app1 layPrg Try.underlying25 rfl (.tmp 31) (.tmp 36) rfl w.heap.size a1 ml.length c1 ml rfl HOW.out ⟨(k : Int), 0, b + (n : Int) + 1⟩ rfl rfl (by show _ * 24 ≤ _; omega) hsz ?_; intro a4 c4 w4 how4 hb4; have HOW4 := Lib.hid how4; have HB4 := Lib.hid (HBL.out.trans hb4); clear how4 hb4)
            | (go_at_call 30; ((with_reducible refine (HS.out _).mono ?_); rintro e w3 ⟨rfl, rfl⟩)))
          go_roundw
          case rel => exact ⟨k + 1, a4, c4, ml ++ [⟨(k : Int), 0, b + (n : Int) + 1⟩], by omega, by omega, by go_num, by simp, (by show beg _ _ _ (k + 1 - 1) = _; rw [Nat.add_sub_cancel, HE2.out]; rfl), by simp; omega, (by (show OwnP _ _ _ _ _ _); rw [List.length_append]; exact HOW4.out), HB4.out⟩
          case measure => simp [intOf]; omega
    · obtain rfl : k = 8 := by omega
      have hE : beg s.toNat self (b + (n : Int)) 7 = ml := HE.out
      have hE2 : ml = r := by rw [← hE]; exact HRR.out
      clear HRR HE hE
      subst hE2
      go_wp2_with fail
      go_ret
      exact ⟨a1, c1, rfl, own_row HOW.out, HBL.out, HOW.out.cap⟩
set_option maxHeartbeats 8000000 in
theorem refbegin_any (es : List RwE) (b t : Int) (a : Option Addr) (n c : Nat) (s : UInt8) (self : Int) (w : World) (hn : es.length = n) (hl : n ≤ 1000000) (hr : Row w a (es.flatMap cellsRw)) :
    Calls Try.prog 20 #[.agg #[.int .i64 b, .int .i64 t, .slice a n c], B s, .int .i64 self] w (RetRowP w (beginF b t (ents es) s.toNat self)) := by
  have hlen : (ents es).length = n := by rw [← hn]; exact List.length_map _
  have HB0 : Hid (Below w.heap.size w (w.alloc (.cells #[.int .i64 b, .int .i64 t, .slice a n c] 24))) := mid_alloc' (Below.refl _ _)
  have HX0 : Hid (Box (w.alloc (.cells #[.int .i64 b, .int .i64 t, .slice a n c] 24)) w.heap.size [.int .i64 b, .int .i64 t, .slice a n c]) := Box.of_alloc (w := w) (cs := [.int .i64 b, .int .i64 t, .slice a n c]) (t := 24) (Below.refl _ _)
  have HC := Lib.hid (fun w' (hb : Below w.heap.size w w') => refcheck_any es b t a n c w' hn hl (hr.mono_below hb))
  have HLV := Lib.hid (fun w' (hb : Below w.heap.size w w') => refLast_any es b t a n c w' hn hl (hr.mono_below hb))
  have HSM := Lib.hid (fun k w' h1 h2 => bit_any s k w' h1 h2)
  rcases hok : okR b t (ents es) with _ | _
  · rw [chk_not hok] at HC
    rw [show beginF b t (ents es) s.toNat self = [] from if_neg (by rw [hok]; exact Bool.false_ne_true)]
    clear hok hlen hr hn HLV HSM
    go_enter Try.func20, Try.ntmps20
    go_wp2_with (go_at_call 12; ((with_reducible refine (HC.out _ HB0.out).mono ?_); rintro e w1 ⟨rfl, hb⟩; have HB1 := Lib.hid (HB0.out.trans (hb.mono HB0.out.size)); clear hb))
    go_ret
    exact ⟨none, 0, rfl, .inl rfl, HB1.out, Nat.le_refl _⟩
  have hob := ok_bounds hok
  have hb1 : 0 ≤ b := hob.1
  have hb2 : b + (n : Int) ≤ 1099511627776 := by have := hob.2.2.1; rw [hlen] at this; exact this
  rw [chk_ok hok] at HC
  rw [lastF_ok hok, hlen] at HLV
  rw [show beginF b t (ents es) s.toNat self = beg s.toNat self (b + ((ents es).length : Int)) 7 from if_pos hok, hlen]
  generalize lastT t (ents es) = lt at HLV
  have HMM := Lib.hid (fun k => (show beg s.toNat self (b + (n : Int)) (k + 1) = beg s.toNat self (b + (n : Int)) k ++ (if (((k + 1 : Nat) : Int) != self) && inSet s.toNat (k + 1) then [⟨((k + 1 : Nat) : Int), 0, b + (n : Int) + 1⟩] else []) from rfl))
  have HM0 : Hid (beg s.toNat self (b + (n : Int)) 0 = []) := rfl
  obtain ⟨r, hrr⟩ : ∃ r, beg s.toNat self (b + (n : Int)) 7 = r := ⟨_, rfl⟩
  rw [hrr]
  have HRR := Lib.hid hrr
  clear hrr hok hlen hr hn hob
  go_enter Try.func20, Try.ntmps20
  go_wp2_with (first
    | (have hgq := HX1; clear hgq; go_at_call 13; ((with_reducible refine (HLV.out _ HB1.out).mono ?_); rintro e w2 ⟨rfl, hb⟩; have HX2 := Lib.hid (HX1.out.next (by simp) hb); have HB2 := Lib.hid (HB1.out.trans (hb.mono HB1.out.size)); clear hb))
    | (go_at_call 12; ((with_reducible refine (HC.out _ HB0.out).mono ?_); rintro e w1 ⟨rfl, hb⟩; have HX1 := Lib.hid (HX0.out.next (by simp) hb); have HB1 := Lib.hid (HB0.out.trans (hb.mono HB0.out.size)); clear hb; have k0 := HX1.out.cell (j := 0) rfl; have k1 := HX1.out.cell (j := 1) rfl; have k2 := HX1.out.cell (j := 2) rfl)))
  clear k0 k1 k2
  go_loopw [9, 10] (fun mt nn wr => ∃ (k : Nat) (a1 : Option Addr) (c1 : Nat) (ml : List Prg), 1 ≤ k ∧ k ≤ 8 ∧ nn = .int .i64 k ∧ mt = .slice a1 ml.length c1 ∧ Hid (beg s.toNat self (b + (n : Int)) (k - 1) = ml) ∧ ml.length ≤ k - 1 ∧ Hid (OwnP wr w.heap.size a1 ml.length c1 ml) ∧ Hid (Below w.heap.size w wr)) (fun _ nn _ => 8 - (intOf nn).toNat)
  case atStart => exact ⟨1, none, 0, [], by omega, by omega, rfl, rfl, HM0.out, by simp, World.ownsRow_nil _ _ _ _, HB2.out⟩
  case round =>
    clear HB0 HX0 HX1 HB1 HX2 HB2 HM0 HC HLV
    obtain ⟨k, a1, c1, ml, hk1, hk8, rfl, rfl, HE, hm7, HOW, HBL⟩ := hrel
    by_cases h7 : k ≤ 7
    · have HS := Lib.hid (fun w' => HSM.out k w' hk1 h7)
      have ek : k - 1 + 1 = k := by omega
      have HE2 := Lib.hid (HMM.out (k - 1))
      rw [ek, HE.out] at HE2
      have hsz := HBL.out.size
      clear HSM HMM ek
      rcases he : ((k : Int) != self) with _ | _
      · rw [he, Bool.false_and] at HE2
        go_wp2_with (go_at_call 33; ((with_reducible refine (HS.out _).mono ?_); rintro e w3 ⟨rfl, rfl⟩))
        go_roundw
        case rel => exact ⟨k + 1, a1, c1, ml, by omega, by omega, by go_num, rfl, (by show beg _ _ _ (k + 1 - 1) = _; rw [Nat.add_sub_cancel, HE2.out]; simp), by omega, HOW.out, HBL.out⟩
        case measure => simp [intOf]; omega
      · rw [he, Bool.true_and] at HE2
        rcases hin : inSet s.toNat k with _ | _
        all_goals rw [hin] at HS HE2
        · go_wp2_with (go_at_call 33; ((with_reducible refine (HS.out _).mono ?_); rintro e w3 ⟨rfl, rfl⟩))
          go_roundw
          case rel => exact ⟨k + 1, a1, c1, ml, by omega, by omega, by go_num, rfl, (by show beg _ _ _ (k + 1 - 1) = _; rw [Nat.add_sub_cancel, HE2.out]; simp), by omega, HOW.out, HBL.out⟩
          case measure => simp [intOf]; omega
        · go_wp2_with (first
            | (at_builtin; refine wpList_app1 layPrg Try.underlying25 rfl (.tmp 31) (.tmp 36) rfl w.heap.size a1 ml.length c1 ml rfl HOW.out ⟨(k : Int), 0, b + (n : Int) + 1⟩ rfl rfl (by show _ * 24 ≤ _; omega) hsz ?_; intro a4 c4 w4 how4 hb4; have HOW4 := Lib.hid how4; have HB4 := Lib.hid (HBL.out.trans hb4); clear how4 hb4)
            | (go_at_call 33; ((with_reducible refine (HS.out _).mono ?_); rintro e w3 ⟨rfl, rfl⟩)))
          go_roundw
          case rel => exact ⟨k + 1, a4, c4, ml ++ [⟨(k : Int), 0, b + (n : Int) + 1⟩], by omega, by omega, by go_num, by simp, (by show beg _ _ _ (k + 1 - 1) = _; rw [Nat.add_sub_cancel, HE2.out]; rfl), by simp; omega, (by (show OwnP _ _ _ _ _ _); rw [List.length_append]; exact HOW4.out), HB4.out⟩
          case measure => simp [intOf]; omega
    · obtain rfl : k = 8 := by omega
      have hE : beg s.toNat self (b + (n : Int)) 7 = ml := HE.out
      have hE2 : ml = r := by rw [← hE]; exact HRR.out
      clear HRR HE hE
      subst hE2
      go_wp2_with fail
      go_ret
      exact ⟨a1, c1, rfl, own_row HOW.out, HBL.out, HOW.out.cap⟩
end Go.Proofs.Ytmihgdjnjfjjcaa
