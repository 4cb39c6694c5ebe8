import Derived.Test.YtkboojpkkhiceaaDoorHisMay
import Derived.Test.YtkboojpkkhiceaaDoorPackHistoryDoes1
set_option linter.unusedVariables false
set_option linter.unusedSimpArgs false
/- Which histories may be, the document's side. (printed by gen_hisrefcheck.py) -/
namespace Go.Proofs.YtkboojpkkhiceaaDoor
open Go.ChangeShapes Go.WideShapes Go.ChangeAt Go.RowKit
set_option maxRecDepth 100000

theorem cmd_range {w : World} {g o : Nat} {x : HCall} (h : w.rangeAt g o x.cells) : w.rangeAt g o x.cmd.cells := fun j v hv => h j v (by
  have hj := (List.getElem?_eq_some_iff.1 hv).1
  rw [show x.cells = x.cmd.cells ++ [.int .i64 x.frm, .int .i64 x.to, .int .i64 x.ans.e, .int .i64 x.ans.rate, .int .i64 x.ans.burst, .int .i64 x.ans.lease, .int .i64 x.ans.size] from rfl, List.getElem?_append_left hj]; exact hv)
theorem ans_range {w : World} {g o : Nat} {x : HCall} (h : w.rangeAt g o x.cells) : w.rangeAt g (o + 15) x.ans.cells := fun j v hv => by
  rw [Nat.add_assoc]
  refine h (15 + j) v ?_
  rw [show x.cells = (x.cmd.cells ++ [.int .i64 x.frm, .int .i64 x.to]) ++ x.ans.cells from rfl, List.getElem?_append_right (by show 15 ≤ 15 + j; omega)]
  show x.ans.cells[15 + j - 15]? = _
  rw [Nat.add_sub_cancel_left]; exact hv
theorem cell_at {w : World} {g j : Nat} {cs : List Value} {v : Value} (h : w.rangeAt g 0 cs) (hj : cs[j]? = some v) : w.cell? ⟨g, j, none⟩ = some v := by
  have := h j v hj; rwa [Nat.zero_add] at this
theorem all_take {l : List HCall} {k : Nat} (h : k < l.length) : (l.take (k + 1)).all callOk = ((l.take k).all callOk && callOk l[k]) := by
  rw [List.take_succ_eq_append_getElem h, List.all_append]; simp
theorem all_bad {l : List HCall} {k : Nat} (h : k < l.length) (hb : callOk l[k] = false) : l.all callOk = false := by
  rw [List.all_eq_false]; exact ⟨l[k], List.getElem_mem h, by rw [hb]; simp⟩
set_option maxHeartbeats 2000000 in
theorem refhcheck_any (l : List HCall) (a : Option Addr) (n c : Nat) (w : World) (hn : l.length = n) (hl : n ≤ maxLen) (hr : LRow layCal w a l) :
    Calls Tryd.prog 13 #[.slice a n c] w fun e w' => e = .returned (.bool (chkL l)) ∧ Below w.heap.size w w' := by
  subst hn
  have hl2 := lt_maxLen hl
  by_cases h12 : 12 < l.length
  · rw [show chkL l = false by unfold chkL; rw [decide_eq_false (by omega)]; rfl]
    clear hr
    go_enter Tryd.func13, Tryd.ntmps13
    go_wp2
    go_returns
    exact ⟨rfl, Below.refl _ _⟩
  rw [show chkL l = l.all callOk by unfold chkL; rw [decide_eq_true (by omega)]; rfl]
  have HB := Lib.hid (fun k (h : k < l.length) => all_bad h)
  have HT : Hid ((l.take l.length).all callOk = true → l.all callOk = true) := fun h => by rw [List.take_length] at h; exact h
  have H0 : Hid ((l.take 0).all callOk = true) := rfl
  have HN := Lib.hid (fun k (h : k < l.length) => all_take h)
  generalize l.all callOk = res at HB HT ⊢
  go_enter Tryd.func13, Tryd.ntmps13
  go_wp2
  go_loopw [3] (fun i wr => ∃ k : Nat, k ≤ l.length ∧ i = .int .i64 k ∧ Hid ((l.take k).all callOk = true) ∧ Below w.heap.size w wr) (fun i _ => l.length - (intOf i).toNat)
  case atStart => exact ⟨0, by omega, rfl, H0, Below.refl _ _⟩
  case round =>
    obtain ⟨k, hk, rfl, hok, hb⟩ := hrel
    by_cases hlt : k < l.length
    · obtain ⟨b, o, rfl, hcs⟩ := hr.range hlt
      have hrange := Lib.hid (hcs _ hb)
      have HB1 := Lib.hid (HB.out k hlt)
      have HN1 : Hid (callOk l[k] = true → (l.take (k + 1)).all callOk = true) := fun h => by rw [HN.out k hlt, hok.out, h]; rfl
      generalize l[k] = x at hrange HB1 HN1
      clear hcs
      obtain ⟨y, f, t, an⟩ := x
      have HCM := Lib.hid (fun w => command_any y w)
      have HCO : Hid (callOk ⟨y, f, t, an⟩ = (asksC y && decide (1 ≤ f ∧ (t = 0 ∨ f < t)))) := rfl
      generalize callOk ⟨y, f, t, an⟩ = co at HB1 HN1 HCO
      generalize asksC y = r at HCM HCO
      have hbs := hb.size
      cases r with
      | false =>
        have HO : Hid (co = false) := by show _ = _; rw [HCO.out]; rfl
        go_wp2_with (first
          | (refine wpList_load_lay layCal rfl _ rfl b (o + k * layCal.size) rfl _ hrange.out ?_)
          | (refine wpList_store_box layCal rfl (.tmp 4) (.tmp 17) rfl ⟨y, f, t, an⟩ rfl rfl rfl ?_; intro w3 hw3 ht3 hb3 hs3; have Hw3 : Hid (w3.rangeAt wr.heap.size 0 (HCall.cells ⟨y, f, t, an⟩)) := hw3; have HB3 := Lib.hid (hb.trans (hb3.mono hbs)); clear hw3 ht3)
          | (refine wpList_load_as layHcm rfl _ rfl wr.heap.size 0 rfl y y.agg rfl (cmd_range Hw3.out) ?_))
        (with_reducible refine (HCM.out _).mono ?_)
        rintro e w4 ⟨rfl, hb4⟩
        have Hw4 := Lib.hid (rangeAt_below Hw3.out hb4 (by omega))
        have k13 : w4.cell? ⟨wr.heap.size, 13, none⟩ = some (.int .i64 f) := cell_at Hw4.out rfl
        have k14 : w4.cell? ⟨wr.heap.size, 14, none⟩ = some (.int .i64 t) := cell_at Hw4.out rfl
        have HB4 := Lib.hid (HB3.out.trans (hb4.mono HB3.out.size))
        clear hb4 hbs hs3
        go_wp2
        go_returns
        exact ⟨ret_bool (HB1.out HO.out).symm, HB4.out⟩
      | true =>
        by_cases h1 : f < 1
        · have HO : Hid (co = false) := by show _ = _; rw [HCO.out, Bool.true_and]; exact decide_eq_false (by omega)
          have d1 : decide (f < 1) = true := decide_eq_true h1
          go_wp2_with (first
            | (refine wpList_load_lay layCal rfl _ rfl b (o + k * layCal.size) rfl _ hrange.out ?_)
            | (refine wpList_store_box layCal rfl (.tmp 4) (.tmp 17) rfl ⟨y, f, t, an⟩ rfl rfl rfl ?_; intro w3 hw3 ht3 hb3 hs3; have Hw3 : Hid (w3.rangeAt wr.heap.size 0 (HCall.cells ⟨y, f, t, an⟩)) := hw3; have HB3 := Lib.hid (hb.trans (hb3.mono hbs)); clear hw3 ht3)
            | (refine wpList_load_as layHcm rfl _ rfl wr.heap.size 0 rfl y y.agg rfl (cmd_range Hw3.out) ?_))
          (with_reducible refine (HCM.out _).mono ?_)
          rintro e w4 ⟨rfl, hb4⟩
          have Hw4 := Lib.hid (rangeAt_below Hw3.out hb4 (by omega))
          have k13 : w4.cell? ⟨wr.heap.size, 13, none⟩ = some (.int .i64 f) := cell_at Hw4.out rfl
          have k14 : w4.cell? ⟨wr.heap.size, 14, none⟩ = some (.int .i64 t) := cell_at Hw4.out rfl
          have HB4 := Lib.hid (HB3.out.trans (hb4.mono HB3.out.size))
          clear hb4 hbs hs3
          go_wp2
          go_returns
          exact ⟨ret_bool (HB1.out HO.out).symm, HB4.out⟩
        have d1 : decide (f < 1) = false := decide_eq_false h1
        by_cases h2 : (t != 0) = true
        · have H2 : Hid (t ≠ 0) := by show t ≠ 0; simpa using h2
          by_cases h3 : t ≤ f
          · have HO : Hid (co = false) := by show _ = _; rw [HCO.out, Bool.true_and]; exact decide_eq_false (by have := H2.out; omega)
            have d3 : decide (t ≤ f) = true := decide_eq_true h3
            go_wp2_with (first
              | (refine wpList_load_lay layCal rfl _ rfl b (o + k * layCal.size) rfl _ hrange.out ?_)
              | (refine wpList_store_box layCal rfl (.tmp 4) (.tmp 17) rfl ⟨y, f, t, an⟩ rfl rfl rfl ?_; intro w3 hw3 ht3 hb3 hs3; have Hw3 : Hid (w3.rangeAt wr.heap.size 0 (HCall.cells ⟨y, f, t, an⟩)) := hw3; have HB3 := Lib.hid (hb.trans (hb3.mono hbs)); clear hw3 ht3)
              | (refine wpList_load_as layHcm rfl _ rfl wr.heap.size 0 rfl y y.agg rfl (cmd_range Hw3.out) ?_))
            (with_reducible refine (HCM.out _).mono ?_)
            rintro e w4 ⟨rfl, hb4⟩
            have Hw4 := Lib.hid (rangeAt_below Hw3.out hb4 (by omega))
            have k13 : w4.cell? ⟨wr.heap.size, 13, none⟩ = some (.int .i64 f) := cell_at Hw4.out rfl
            have k14 : w4.cell? ⟨wr.heap.size, 14, none⟩ = some (.int .i64 t) := cell_at Hw4.out rfl
            have HB4 := Lib.hid (HB3.out.trans (hb4.mono HB3.out.size))
            clear hb4 hbs hs3
            go_wp2
            go_returns
            exact ⟨ret_bool (HB1.out HO.out).symm, HB4.out⟩
          · have HO : Hid (co = true) := by show _ = _; rw [HCO.out, Bool.true_and]; exact decide_eq_true (by omega)
            have d3 : decide (t ≤ f) = false := decide_eq_false h3
            go_wp2_with (first
              | (refine wpList_load_lay layCal rfl _ rfl b (o + k * layCal.size) rfl _ hrange.out ?_)
              | (refine wpList_store_box layCal rfl (.tmp 4) (.tmp 17) rfl ⟨y, f, t, an⟩ rfl rfl rfl ?_; intro w3 hw3 ht3 hb3 hs3; have Hw3 : Hid (w3.rangeAt wr.heap.size 0 (HCall.cells ⟨y, f, t, an⟩)) := hw3; have HB3 := Lib.hid (hb.trans (hb3.mono hbs)); clear hw3 ht3)
              | (refine wpList_load_as layHcm rfl _ rfl wr.heap.size 0 rfl y y.agg rfl (cmd_range Hw3.out) ?_))
            (with_reducible refine (HCM.out _).mono ?_)
            rintro e w4 ⟨rfl, hb4⟩
            have Hw4 := Lib.hid (rangeAt_below Hw3.out hb4 (by omega))
            have k13 : w4.cell? ⟨wr.heap.size, 13, none⟩ = some (.int .i64 f) := cell_at Hw4.out rfl
            have k14 : w4.cell? ⟨wr.heap.size, 14, none⟩ = some (.int .i64 t) := cell_at Hw4.out rfl
            have HB4 := Lib.hid (HB3.out.trans (hb4.mono HB3.out.size))
            clear hb4 hbs hs3
            go_wp2
            go_roundw
            case rel => exact ⟨k + 1, by omega, by go_num, HN1.out HO.out, HB4.out⟩
            case measure => simp [intOf]; omega
        · have d2 : (t != 0) = false := by simpa using h2
          have HO : Hid (co = true) := by show _ = _; rw [HCO.out, Bool.true_and]; exact decide_eq_true (by have h5 : t = 0 := (by simpa using h2); omega)
          clear h2
          go_wp2_with (first
            | (refine wpList_load_lay layCal rfl _ rfl b (o + k * layCal.size) rfl _ hrange.out ?_)
            | (refine wpList_store_box layCal rfl (.tmp 4) (.tmp 17) rfl ⟨y, f, t, an⟩ rfl rfl rfl ?_; intro w3 hw3 ht3 hb3 hs3; have Hw3 : Hid (w3.rangeAt wr.heap.size 0 (HCall.cells ⟨y, f, t, an⟩)) := hw3; have HB3 := Lib.hid (hb.trans (hb3.mono hbs)); clear hw3 ht3)
            | (refine wpList_load_as layHcm rfl _ rfl wr.heap.size 0 rfl y y.agg rfl (cmd_range Hw3.out) ?_))
          (with_reducible refine (HCM.out _).mono ?_)
          rintro e w4 ⟨rfl, hb4⟩
          have Hw4 := Lib.hid (rangeAt_below Hw3.out hb4 (by omega))
          have k13 : w4.cell? ⟨wr.heap.size, 13, none⟩ = some (.int .i64 f) := cell_at Hw4.out rfl
          have k14 : w4.cell? ⟨wr.heap.size, 14, none⟩ = some (.int .i64 t) := cell_at Hw4.out rfl
          have HB4 := Lib.hid (HB3.out.trans (hb4.mono HB3.out.size))
          clear hb4 hbs hs3
          go_wp2
          go_roundw
          case rel => exact ⟨k + 1, by omega, by go_num, HN1.out HO.out, HB4.out⟩
          case measure => simp [intOf]; omega
    · obtain rfl : k = l.length := by omega
      have HO := Lib.hid (HT.out hok.out)
      go_wp2
      go_returns
      exact ⟨ret_bool HO.out.symm, hb⟩
end Go.Proofs.YtkboojpkkhiceaaDoor
