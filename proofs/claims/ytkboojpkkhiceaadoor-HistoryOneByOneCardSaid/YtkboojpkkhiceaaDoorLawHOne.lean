import Derived.Test.YtkboojpkkhiceaaDoorHisWakes
import Derived.Test.YtkboojpkkhiceaaDoorHisOneP
import Derived.Test.YtkboojpkkhiceaaDoorPackHistoryDoes2
import Derived.Test.YtkboojpkkhiceaaDoorLawHFound
set_option linter.unusedVariables false
set_option linter.unusedSimpArgs false
/- Calls one behind the other fit just as a table answers them: the walk of HistoryOneByOne. (printed by gen_hisone.py) -/
namespace Go.Proofs.YtkboojpkkhiceaaDoor
open Go.ChangeShapes Go.WideShapes Go.ChangeAt Go.RowKit
set_option maxRecDepth 100000

/-- out = append(out, y) for calls: where its row lies. -/
theorem wpList_pushC {ops : Array Oper} {rest : List Oper} {op : Oper} {ac : Act} {w : World} {cs : Array Value} {te : TypeId} {Q : Exit → Act → World → Prop} (hgd : op.guard = none) (s x : Operand)
    (ho : op.op = .call { callee := .builtin .append, args := #[s, x], argTypes := #[27, 27] }) (B : Nat) (a : Option Addr) (n c : Nat) (ls : List HCall) (hn : ls.length = n) (hs : ac.eval s = .slice a n c) (hown : w.ownsRow B 41 layCal.size (.slice a n c) n (ls.flatMap layCal.cells))
    (y : HCall) (hcs : cs.toList = layCal.cells y) (hx : ac.eval x = .slice (some ⟨w.heap.size, 0, none⟩) 1 1) (hby : n ≤ 1000) (hB : B ≤ w.heap.size)
    (h : ∀ a' c' w', w'.ownsRow B 41 layCal.size (.slice a' (n + 1) c') (n + 1) ((ls ++ [y]).flatMap layCal.cells) → (w.alloc (.cells cs te)).grownBy w' (Value.slice a n c).ownBlock → Near w.heap.size a a' → wpList Tryd.prog ops Q rest (ac.put op.dst (.slice a' (n + 1) c')) w') :
    wpList Tryd.prog ops Q (op :: rest) ac (w.alloc (.cells cs te)) := by
  have el : Elem Tryd.prog 27 41 layCal.size layCal.bytes := layCal.elem Tryd.underlying27
  have hcan : Can (w.alloc (.cells cs te)) B 41 layCal.size a n c (ls.flatMap layCal.cells) := ⟨by rw [layCal.length, hn], by unfold maxLen; omega, .inr (hown.alloc _)⟩
  have hrow : Row (w.alloc (.cells cs te)) (some ⟨w.heap.size, 0, none⟩) (layCal.cells y) := by rw [← hcs]; exact Row.new _ _ _ _
  have hbyt : (n + 1) * layCal.bytes ≤ 140737488355328 := by show (n + 1) * 176 ≤ _; omega
  have hl4 : (layCal.cells y).length = 1 * layCal.size := rfl
  obtain ⟨a', c', w', hrun, h2, h3, h4, h5⟩ := run_can el op.type B a n c _ hcan (some ⟨w.heap.size, 0, none⟩) 1 1 (layCal.cells y) hl4 hrow (layCal.one y) hbyt (Nat.le_trans hB (by simp))
  have hnear := canNear el op.type B a n c _ hcan (some ⟨w.heap.size, 0, none⟩) 1 1 (layCal.cells y) hl4 hrow (layCal.one y) hbyt (by omega) hrun
  refine wpList_plain hgd fun K hK => ?_
  unfold Oper.wp execOp
  simp only [ho, resolve, invoke, builtin, Sem.run_bind, Sem.run_pure, Result.andThen_ok, List.map_toArray, List.map_cons, List.map_nil, hs, hx, hrun]
  exact hK _ _ (h a' c' w' (by rw [List.flatMap_append, List.flatMap_cons, List.flatMap_nil, List.append_nil]; exact h5.1 (by decide)) h3 (near_down hnear (by simp)))
theorem row_pushed {w w' : World} {a ac : Option Addr} {n c : Nat} {o1 : Obj} {xs : List Value} (h : Row w a xs) (hg : (w.alloc o1).grownBy w' (Value.slice ac n c).ownBlock) (hap : xs = [] ∨ Apart a ac) : Row w' a xs := by
  rcases hap with hap | hap
  · exact .inl hap
  rcases h with h | ⟨b, o, rfl, hc⟩
  · exact .inl h
  · refine .inr ⟨b, o, rfl, fun i hi => ?_⟩
    have hlt := World.block_lt_of_cell? w _ (hc i hi)
    dsimp only at hlt
    have h1 : w'.heap[b]? = w.heap[b]? := by
      rw [hg.block b (by simp; omega) (fun e => by obtain ⟨o', s', e2⟩ := ownBlock_some e.symm; exact hap b o none b o' s' rfl e2 rfl)]
      exact ((Below.refl w.heap.size w).alloc (Nat.le_refl _) o1).block b hlt
    rw [World.cell?_of_block (w := w) h1]; exact hc i hi
theorem fits_chain (xs : List HCmd) (v : Int) (hn : xs.length ≤ 7) (ha : ∀ x ∈ xs, asksC x = true) : fitsF (callsW xs v xs.length) = if 0 ≤ v ∧ v < (xs.length : Int) then ([], false, 0) else (List.range' 0 xs.length, true, 0) := by
  have h1 := one_chk xs v (by omega) ha
  have h2 := one_S xs v (by omega) xs.length 0 (by omega)
  have h3 : S (callsW xs v xs.length) 0 [] = if 0 ≤ v ∧ v < (xs.length : Int) then none else some (List.range' 0 xs.length) := h2
  split at h3
  · rename_i h; rw [fits_none h1 h3, if_pos h]
  · rename_i h; rw [fits_some h1 h3, if_neg h]
theorem own_keep1 {w w' : World} {B n c : Nat} {e : TypeId} {size : Nat} {a : Option Addr} {xs : List Value} (h : w.ownsRow B e size (.slice a n c) n xs) (hk : ∀ b o s, a = some ⟨b, o, s⟩ → w'.heap[b]? = w.heap[b]?) : w'.ownsRow B e size (.slice a n c) n xs := by
  obtain ⟨h1, h2⟩ := h
  refine ⟨h1, ?_⟩
  rcases h2 with h2 | ⟨g, cap, cur, h3, h4, h5, h6⟩
  · exact .inl h2
  · refine .inr ⟨g, cap, cur, h3, h4, ?_, h6⟩
    simp only [Value.slice.injEq] at h3
    rw [hk g 0 none h3.1]; exact h5
theorem ap5 {w2 : World} {a5 ac : Option Addr} {B S0 : Nat} {xs : List Value} (hn : Near w2.heap.size none a5) (hp : ∀ b o s, ac = some ⟨b, o, s⟩ → B ≤ b ∧ b < S0) (hs : S0 < w2.heap.size) : xs = [] ∨ Apart a5 ac := .inr fun x o s y o' s' e1 e2 => by
  have h2 := (hp _ _ _ e2).2
  rcases hn _ _ _ e1 with h1 | ⟨_, _, h1⟩
  · omega
  · cases h1
theorem ap6 {w5 : World} {a5 ac a6 : Option Addr} {t5 : List Force} (hr : LRow layFce w5 a5 t5) (hn : Near w5.heap.size ac a6) (hap : t5.flatMap layFce.cells = [] ∨ Apart a5 ac) : t5 = [] ∨ Apart a5 a6 := by
  by_cases h0 : t5 = []
  · exact .inl h0
  · rcases hap with h | hap
    · exfalso
      have h4 := congrArg List.length h
      rw [layFce.length, List.length_nil, Nat.mul_eq_zero] at h4
      have := layFce.pos
      rcases h4 with h4 | h4
      · exact h0 (List.eq_nil_of_length_eq_zero h4)
      · omega
    · refine .inr fun x o s y o' s' e1 e2 => ?_
      have h1 := row_ltT hr h0 e1
      rcases hn _ _ _ e2 with h2 | ⟨o3, s3, h2⟩
      · omega
      · exact hap x o s y o3 s3 e1 h2
theorem row_keepT {w w' : World} {a : Option Addr} {t : List Force} {g : Nat} (h : LRow layFce w a t) (hw : Wrote g w w') (hlt : t = [] ∨ ∀ b o s, a = some ⟨b, o, s⟩ → b < g) : LRow layFce w' a t := by
  rcases hlt with rfl | hlt
  · exact .inl rfl
  · rcases h with h | ⟨b, o, rfl, hc⟩
    · exact .inl h
    · exact .inr ⟨b, o, rfl, fun i hi => by rw [World.cell?_of_block (w := w) (hw.keep b (by have := hlt b o none rfl; omega))]; exact hc i hi⟩
set_option maxHeartbeats 16000000 in
theorem law_hone (a1 : Option Addr) (xs : List HCmd) (n c : Nat) (v : Int) (w : World) (h1 : xs.length = n) (hgd : ∀ x ∈ xs, GoodC x) (r1 : LRow layHcm w a1 xs) (z : n ≤ maxLen) (htab : Lib.TabIs Tryd.prog w "internal/strconv.uint64pow10" .u64 Lib.pow10Tab) :
    Calls Tryd.prog 5 #[.slice a1 n c, .int .i64 v] w fun e w' => e = .returned (.bool true) ∧ Below w.heap.size w w' := by
  subst h1
  have hz1 := lt_maxLen z
  have HTAB := Lib.hid (Lib.tabBelow_of_tabIs htab)
  have WK := Lib.hid (fun w' (hb : Below w.heap.size w w') => wakes_any w' (HTAB.out.on hb).here)
  have HB0 : Hid (Below w.heap.size w w) := Below.refl _ _
  clear htab
  by_cases hs1 : 7 < xs.length
  · have d1 : decide ((7 : Int) < (xs.length : Int)) = true := decide_eq_true (by omega)
    clear r1 hgd
    go_enter Tryd.func5, Tryd.ntmps5
    go_wp2_with (go_at_call 8; ((with_reducible refine (WK.out _ HB0.out).mono ?_); rintro e w9 ⟨rfl, hb⟩; have HB9 := Lib.hid (HB0.out.trans (hb.mono HB0.out.size)); clear hb))
    go_returns
    exact ⟨rfl, HB9.out⟩
  have d1 : decide ((7 : Int) < (xs.length : Int)) = false := decide_eq_false (by omega)
  have H1 := Lib.hid r1
  have HGD := Lib.hid hgd
  clear r1 hgd
  go_enter Tryd.func5, Tryd.ntmps5
  go_wp2_with fail
  go_loopw [5, 6, 7, 22] (fun s5 s6 s7 s22 wr => ∃ (i : Nat) (at_ : Option Addr) (ct : Nat) (ac : Option Addr) (cc : Nat), i ≤ xs.length ∧ s22 = .int .i64 i ∧ s5 = .slice at_ (tbl xs i).length ct ∧ s6 = .slice ac i cc ∧ s7 = .bool (decide (0 ≤ v ∧ v < (i : Int))) ∧ (tbl xs i).length ≤ ct ∧ Hid (at_ = none → ct = 0) ∧ Hid (LRow layFce wr at_ (tbl xs i)) ∧ Hid (wr.ownsRow w.heap.size 41 layCal.size (.slice ac i cc) i ((callsW xs v i).flatMap layCal.cells)) ∧ Hid (tbl xs i = [] ∨ Apart at_ ac) ∧ Hid (∀ j (h : j < xs.length), j < i → asksC xs[j] = true) ∧ Hid (Below w.heap.size w wr)) (fun _ _ _ s22 _ => xs.length - (intOf s22).toNat)
  case atStart => exact ⟨0, none, 0, none, 0, by omega, rfl, rfl, rfl, by rw [decide_eq_false (by omega)], Nat.le_refl _, fun _ => rfl, .inl rfl, World.ownsRow_nil _ _ _ _, .inl rfl, fun j h h0 => absurd h0 (Nat.not_lt_zero _), Below.refl _ _⟩
  case round =>
    obtain ⟨i, at_, ct, ac, cc, hi, rfl, rfl, rfl, rfl, hnc, HCN, HTR, HOW, HAP, HAS, HB⟩ := hrel
    by_cases hlt : i < xs.length
    · obtain ⟨b, o, ha1, hcs⟩ := LRow.range H1.out hlt
      subst ha1
      have HXR : Hid (wr.rangeAt b (o + i * 13) xs[i].cells) := hcs _ HB.out
      have hq0 : decide ((i : Int) < (xs.length : Int)) = true := decide_eq_true (by omega)
      have HTB : Hid (tbl xs (i + 1) = (doF (tbl xs i) xs[i]).1) := tbl_succ hlt
      have HCW : Hid (callsW xs v (i + 1) = callsW xs v i ++ [⟨xs[i], 2 * (i : Int) + 1, 2 * (i : Int) + 2, ansW v i (doF (tbl xs i) xs[i]).2⟩]) := by show _ = _; rw [callsW_succ, callW_at hlt]
      have HAN : Hid (asksC xs[i] = true → ∀ j (h : j < xs.length), j < i + 1 → asksC xs[j] = true) := fun h0 j h hj => by
        by_cases e : j = i
        · subst e; exact h0
        · exact HAS.out j h (by omega)
      have hgx := HGD.out _ (List.getElem_mem hlt)
      have hlen := tabOk_len (tbl_ok xs i)
      have hsz0 := do_size (tbl xs i) xs[i]
      have hcl := callsW_len xs v i
      generalize xs[i] = x at HXR HTB HCW HAN hgx hsz0
      clear hcs
      have HDO := Lib.hid (fun w' hr => hdo_any (tbl xs i) x at_ (tbl xs i).length ct w' rfl (by omega) HCN.out hnc hr)
      rcases hdo : doF (tbl xs i) x with ⟨t5, y⟩
      rw [hdo] at HTB HCW HDO hsz0
      dsimp only at HTB HCW HDO hsz0
      clear hdo
      obtain ⟨ye, yr, yb, yl, ys⟩ := y
      dsimp only at hsz0
      subst hsz0
      obtain ⟨k, x1, x2, te, ra, bu, x6, x7, x8, x9, x10, x11, ls⟩ := x
      unfold GoodC at hgx
      dsimp only at hgx
      have hgk := hgx.2.2.2
      clear hgx
      have hbs := HB.out.size
      have HBW := Lib.hid hbs
      by_cases q1 : k < 1
      · have e1 : decide (k < 1) = true := decide_eq_true q1
        clear HTB HCW HAN
        go_wp2_with (first
          | (refine wpList_load_as layHcm rfl (.tmp 25) rfl b (o + i * 13) rfl ⟨k, x1, x2, te, ra, bu, x6, x7, x8, x9, x10, x11, ls⟩ (HCmd.agg ⟨k, x1, x2, te, ra, bu, x6, x7, x8, x9, x10, x11, ls⟩) rfl HXR.out ?_)
          | (refine wpList_store_box layHcm rfl (.tmp 9) (.tmp 26) rfl ⟨k, x1, x2, te, ra, bu, x6, x7, x8, x9, x10, x11, ls⟩ rfl rfl rfl ?_; intro w2 hw2 ht2 hb2 hs2; have HX2 : Hid (Box w2 wr.heap.size (HCmd.cells ⟨k, x1, x2, te, ra, bu, x6, x7, x8, x9, x10, x11, ls⟩)) := ⟨hw2, ht2⟩; have HB2 := Lib.hid (HB.out.trans (hb2.mono hbs)); have HR2 := Lib.hid (LRow.below HTR.out hb2); have HO2 := Lib.hid (own_keep HOW.out (fun j _ hj => hb2.block j hj)); have hs2' : wr.heap.size < w2.heap.size := HX2.out.lt (by simp); have f0 := HX2.out.cell (j := 0) rfl; have f3 := HX2.out.cell (j := 3) rfl; clear hw2 ht2 hb2 hs2)
          | (go_at_call 8; ((with_reducible refine (WK.out _ HB2.out).mono ?_); rintro e w9 ⟨rfl, hb⟩; have HB9 := Lib.hid (HB2.out.trans (hb.mono HB2.out.size)); clear hb)))
        go_returns
        exact ⟨rfl, HB9.out⟩
      by_cases q2 : 3 < k
      · have e1 : decide (k < 1) = false := decide_eq_false q1
        have e2 : decide (3 < k) = true := decide_eq_true q2
        clear HTB HCW HAN
        go_wp2_with (first
          | (refine wpList_load_as layHcm rfl (.tmp 25) rfl b (o + i * 13) rfl ⟨k, x1, x2, te, ra, bu, x6, x7, x8, x9, x10, x11, ls⟩ (HCmd.agg ⟨k, x1, x2, te, ra, bu, x6, x7, x8, x9, x10, x11, ls⟩) rfl HXR.out ?_)
          | (refine wpList_store_box layHcm rfl (.tmp 9) (.tmp 26) rfl ⟨k, x1, x2, te, ra, bu, x6, x7, x8, x9, x10, x11, ls⟩ rfl rfl rfl ?_; intro w2 hw2 ht2 hb2 hs2; have HX2 : Hid (Box w2 wr.heap.size (HCmd.cells ⟨k, x1, x2, te, ra, bu, x6, x7, x8, x9, x10, x11, ls⟩)) := ⟨hw2, ht2⟩; have HB2 := Lib.hid (HB.out.trans (hb2.mono hbs)); have HR2 := Lib.hid (LRow.below HTR.out hb2); have HO2 := Lib.hid (own_keep HOW.out (fun j _ hj => hb2.block j hj)); have hs2' : wr.heap.size < w2.heap.size := HX2.out.lt (by simp); have f0 := HX2.out.cell (j := 0) rfl; have f3 := HX2.out.cell (j := 3) rfl; clear hw2 ht2 hb2 hs2)
          | (go_at_call 8; ((with_reducible refine (WK.out _ HB2.out).mono ?_); rintro e w9 ⟨rfl, hb⟩; have HB9 := Lib.hid (HB2.out.trans (hb.mono HB2.out.size)); clear hb)))
        go_returns
        exact ⟨rfl, HB9.out⟩
      by_cases q3 : te < 1
      · have e1 : decide (k < 1) = false := decide_eq_false q1
        have e2 : decide (3 < k) = false := decide_eq_false q2
        have e3 : decide (te < 1) = true := decide_eq_true q3
        clear HTB HCW HAN
        go_wp2_with (first
          | (refine wpList_load_as layHcm rfl (.tmp 25) rfl b (o + i * 13) rfl ⟨k, x1, x2, te, ra, bu, x6, x7, x8, x9, x10, x11, ls⟩ (HCmd.agg ⟨k, x1, x2, te, ra, bu, x6, x7, x8, x9, x10, x11, ls⟩) rfl HXR.out ?_)
          | (refine wpList_store_box layHcm rfl (.tmp 9) (.tmp 26) rfl ⟨k, x1, x2, te, ra, bu, x6, x7, x8, x9, x10, x11, ls⟩ rfl rfl rfl ?_; intro w2 hw2 ht2 hb2 hs2; have HX2 : Hid (Box w2 wr.heap.size (HCmd.cells ⟨k, x1, x2, te, ra, bu, x6, x7, x8, x9, x10, x11, ls⟩)) := ⟨hw2, ht2⟩; have HB2 := Lib.hid (HB.out.trans (hb2.mono hbs)); have HR2 := Lib.hid (LRow.below HTR.out hb2); have HO2 := Lib.hid (own_keep HOW.out (fun j _ hj => hb2.block j hj)); have hs2' : wr.heap.size < w2.heap.size := HX2.out.lt (by simp); have f0 := HX2.out.cell (j := 0) rfl; have f3 := HX2.out.cell (j := 3) rfl; clear hw2 ht2 hb2 hs2)
          | (go_at_call 8; ((with_reducible refine (WK.out _ HB2.out).mono ?_); rintro e w9 ⟨rfl, hb⟩; have HB9 := Lib.hid (HB2.out.trans (hb.mono HB2.out.size)); clear hb)))
        go_returns
        exact ⟨rfl, HB9.out⟩
      by_cases q4 : 16 < te
      · have e1 : decide (k < 1) = false := decide_eq_false q1
        have e2 : decide (3 < k) = false := decide_eq_false q2
        have e3 : decide (te < 1) = false := decide_eq_false q3
        have e4 : decide (16 < te) = true := decide_eq_true q4
        clear HTB HCW HAN
        go_wp2_with (first
          | (refine wpList_load_as layHcm rfl (.tmp 25) rfl b (o + i * 13) rfl ⟨k, x1, x2, te, ra, bu, x6, x7, x8, x9, x10, x11, ls⟩ (HCmd.agg ⟨k, x1, x2, te, ra, bu, x6, x7, x8, x9, x10, x11, ls⟩) rfl HXR.out ?_)
          | (refine wpList_store_box layHcm rfl (.tmp 9) (.tmp 26) rfl ⟨k, x1, x2, te, ra, bu, x6, x7, x8, x9, x10, x11, ls⟩ rfl rfl rfl ?_; intro w2 hw2 ht2 hb2 hs2; have HX2 : Hid (Box w2 wr.heap.size (HCmd.cells ⟨k, x1, x2, te, ra, bu, x6, x7, x8, x9, x10, x11, ls⟩)) := ⟨hw2, ht2⟩; have HB2 := Lib.hid (HB.out.trans (hb2.mono hbs)); have HR2 := Lib.hid (LRow.below HTR.out hb2); have HO2 := Lib.hid (own_keep HOW.out (fun j _ hj => hb2.block j hj)); have hs2' : wr.heap.size < w2.heap.size := HX2.out.lt (by simp); have f0 := HX2.out.cell (j := 0) rfl; have f3 := HX2.out.cell (j := 3) rfl; clear hw2 ht2 hb2 hs2)
          | (go_at_call 8; ((with_reducible refine (WK.out _ HB2.out).mono ?_); rintro e w9 ⟨rfl, hb⟩; have HB9 := Lib.hid (HB2.out.trans (hb.mono HB2.out.size)); clear hb)))
        go_returns
        exact ⟨rfl, HB9.out⟩
      have HAN2 := Lib.hid (HAN.out (decide_eq_true (by dsimp only; omega)))
      have e1 : decide (k < 1) = false := decide_eq_false q1
      have e2 : decide (3 < k) = false := decide_eq_false q2
      have e3 : decide (te < 1) = false := decide_eq_false q3
      have e4 : decide (16 < te) = false := decide_eq_false q4
      clear q1 q2 q3 q4 HAN
      by_cases hv : (i : Int) = v
      · have hve : ((i : Int) == v) = true := by rw [beq_iff_eq]; exact hv
        have HAW : Hid (ansW v i ⟨ye, yr, yb, yl, 0⟩ = ⟨ye, yr, yb, yl, 1⟩) := if_pos hv
        have HBD : Hid (decide (0 ≤ v ∧ v < ((i + 1 : Nat) : Int)) = true) := decide_eq_true (by omega)
        clear hv
        go_wp2_with (first
          | (refine wpList_load_as layHcm rfl (.tmp 25) rfl b (o + i * 13) rfl ⟨k, x1, x2, te, ra, bu, x6, x7, x8, x9, x10, x11, ls⟩ (HCmd.agg ⟨k, x1, x2, te, ra, bu, x6, x7, x8, x9, x10, x11, ls⟩) rfl HXR.out ?_)
          | (refine wpList_store_box layHcm rfl (.tmp 9) (.tmp 26) rfl ⟨k, x1, x2, te, ra, bu, x6, x7, x8, x9, x10, x11, ls⟩ rfl rfl rfl ?_; intro w2 hw2 ht2 hb2 hs2; have HX2 : Hid (Box w2 wr.heap.size (HCmd.cells ⟨k, x1, x2, te, ra, bu, x6, x7, x8, x9, x10, x11, ls⟩)) := ⟨hw2, ht2⟩; have HB2 := Lib.hid (HB.out.trans (hb2.mono hbs)); have HR2 := Lib.hid (LRow.below HTR.out hb2); have HO2 := Lib.hid (own_keep HOW.out (fun j _ hj => hb2.block j hj)); have hs2' : wr.heap.size < w2.heap.size := HX2.out.lt (by simp); have f0 := HX2.out.cell (j := 0) rfl; have f3 := HX2.out.cell (j := 3) rfl; clear hw2 ht2 hb2 hs2)
          | (refine wpList_load_as layHcm rfl (.tmp 9) rfl wr.heap.size 0 rfl ⟨k, x1, x2, te, ra, bu, x6, x7, x8, x9, x10, x11, ls⟩ (HCmd.agg ⟨k, x1, x2, te, ra, bu, x6, x7, x8, x9, x10, x11, ls⟩) rfl HX2.out.range ?_))
        (with_reducible refine (HDO.out _ HR2.out).mono ?_)
        rintro e w3 ⟨a5, c5, rfl, hle5, hno5, hr5, hnr5, hb⟩
        have HX3 := Lib.hid (HX2.out.next (by simp) hb)
        have HB3 := Lib.hid (HB2.out.trans (hb.mono HB2.out.size))
        have HR3 := Lib.hid hr5
        have HN3 := Lib.hid hnr5
        have HNO := Lib.hid hno5
        have HO3 := Lib.hid (own_keep HO2.out (fun j _ hj => hb.block j hj))
        have hs3 := hb.size
        clear hr5 hnr5 hno5 hb f0 f3
        go_wp2_with (first
          | (refine wpList_store_box layAns rfl (.tmp 11) (.tmp 51) rfl (⟨ye, yr, yb, yl, 0⟩ : Ans) rfl rfl rfl ?_; intro w4 hw4 ht4 hb4 hs4; have HA4 : Hid (Box w4 w3.heap.size (Ans.cells ⟨ye, yr, yb, yl, 0⟩)) := ⟨hw4, ht4⟩; have HX4 := Lib.hid (HX3.out.next (by simp) hb4); have HB4 := Lib.hid (HB3.out.trans (hb4.mono HB3.out.size)); have HR4 := Lib.hid (LRow.below HR3.out hb4); have HO4 := Lib.hid (own_keep HO3.out (fun j _ hj => hb4.block j hj)); have hs4 := hb4.size; have g4 := HA4.out.cell (j := 4) rfl; have HLT : Hid (t5 = [] ∨ ∀ b o s, a5 = some ⟨b, o, s⟩ → b < w3.heap.size) := (by by_cases h0 : t5 = []; exact .inl h0; exact .inr (fun b o s e => row_ltT HR3.out h0 e)); have HOLT : Hid (w3.heap.size = w3.heap.size) := rfl; clear hw4 ht4 hb4 hs4)
          | (refine wpList_store_field rfl (.tmp 59) (.tmp 58) rfl (by kernel_rfl) w3.heap.size 4 (Ans.cells ⟨ye, yr, yb, yl, 0⟩) (.int .i64 1) rfl rfl rfl rfl HA4.out (by simp) ?_; intro w5 hb5 hw5; have HA5 : Hid (Box w5 w3.heap.size (Ans.cells ⟨ye, yr, yb, yl, 1⟩)) := hb5; have HX5 := Lib.hid (HX4.out.wrote hw5 (by omega)); have HB5 := Lib.hid (HB4.out.trans (hw5.below _ (by omega))); have HR5 : Hid (LRow layFce w5 a5 t5) := row_keepT HR4.out hw5 HLT.out; have HO5 := Lib.hid (own_keep1 HO4.out (fun bb oo ss e => hw5.keep bb (by have := (own_place HOW.out bb oo ss e).2; omega))); have hs5 : w4.heap.size ≤ w5.heap.size := Nat.le_of_eq hw5.size.symm; clear hb5 hw5)
          | (refine wpList_load_as layHcm rfl (.tmp 9) rfl wr.heap.size 0 rfl ⟨k, x1, x2, te, ra, bu, x6, x7, x8, x9, x10, x11, ls⟩ (HCmd.agg ⟨k, x1, x2, te, ra, bu, x6, x7, x8, x9, x10, x11, ls⟩) rfl HX5.out.range ?_)
          | (refine wpList_load_as layAns rfl (.tmp 11) rfl w3.heap.size 0 rfl ⟨ye, yr, yb, yl, 1⟩ (Ans.agg ⟨ye, yr, yb, yl, 1⟩) rfl HA5.out.range ?_)
          | (at_builtin; refine wpList_pushC rfl (.tmp 60) (.tmp 70) rfl w.heap.size ac i cc (callsW xs v i) hcl rfl HO5.out ⟨⟨k, x1, x2, te, ra, bu, x6, x7, x8, x9, x10, x11, ls⟩, 2 * (i : Int) + 1, 2 * (i : Int) + 2, ⟨ye, yr, yb, yl, 1⟩⟩ rfl rfl (by omega) HB5.out.size ?_; intro a6 c6 w6 ho6 hg6 hn6; have HO6 := Lib.hid ho6; have HG6 := Lib.hid hg6; have HN6 := Lib.hid hn6; clear ho6 hg6 hn6))
        go_roundw
        case rel => exact ⟨i + 1, a5, c5, a6, c6, by omega, by go_num, by rw [HTB.out], rfl, by rw [HBD.out] <;> (first | rfl | simp), by rw [HTB.out]; exact hle5, HNO.out, by rw [HTB.out]; exact row_pushed HR5.out HG6.out ((ap5 HN3.out (own_place HOW.out) hs2')), by rw [HCW.out, HAW.out]; exact HO6.out, by rw [HTB.out]; exact ap6 HR5.out HN6.out (ap5 HN3.out (own_place HOW.out) hs2'), HAN2.out, HB5.out.trans (((Below.refl w.heap.size w5).alloc HB5.out.size _).trans (grown_below HG6.out (by simp; have := HB5.out.size; omega) (fun b o s e => (own_place HOW.out b o s e).1)))⟩
        case measure => simp [intOf]; omega
      · have hve : ((i : Int) == v) = false := by rw [beq_eq_false_iff_ne]; exact hv
        have HAW : Hid (ansW v i ⟨ye, yr, yb, yl, 0⟩ = ⟨ye, yr, yb, yl, 0⟩) := if_neg hv
        have HBD : Hid (decide (0 ≤ v ∧ v < ((i + 1 : Nat) : Int)) = decide (0 ≤ v ∧ v < (i : Int))) := by show _ = _; exact decide_eq_decide.2 (by omega)
        clear hv
        go_wp2_with (first
          | (refine wpList_load_as layHcm rfl (.tmp 25) rfl b (o + i * 13) rfl ⟨k, x1, x2, te, ra, bu, x6, x7, x8, x9, x10, x11, ls⟩ (HCmd.agg ⟨k, x1, x2, te, ra, bu, x6, x7, x8, x9, x10, x11, ls⟩) rfl HXR.out ?_)
          | (refine wpList_store_box layHcm rfl (.tmp 9) (.tmp 26) rfl ⟨k, x1, x2, te, ra, bu, x6, x7, x8, x9, x10, x11, ls⟩ rfl rfl rfl ?_; intro w2 hw2 ht2 hb2 hs2; have HX2 : Hid (Box w2 wr.heap.size (HCmd.cells ⟨k, x1, x2, te, ra, bu, x6, x7, x8, x9, x10, x11, ls⟩)) := ⟨hw2, ht2⟩; have HB2 := Lib.hid (HB.out.trans (hb2.mono hbs)); have HR2 := Lib.hid (LRow.below HTR.out hb2); have HO2 := Lib.hid (own_keep HOW.out (fun j _ hj => hb2.block j hj)); have hs2' : wr.heap.size < w2.heap.size := HX2.out.lt (by simp); have f0 := HX2.out.cell (j := 0) rfl; have f3 := HX2.out.cell (j := 3) rfl; clear hw2 ht2 hb2 hs2)
          | (refine wpList_load_as layHcm rfl (.tmp 9) rfl wr.heap.size 0 rfl ⟨k, x1, x2, te, ra, bu, x6, x7, x8, x9, x10, x11, ls⟩ (HCmd.agg ⟨k, x1, x2, te, ra, bu, x6, x7, x8, x9, x10, x11, ls⟩) rfl HX2.out.range ?_))
        (with_reducible refine (HDO.out _ HR2.out).mono ?_)
        rintro e w3 ⟨a5, c5, rfl, hle5, hno5, hr5, hnr5, hb⟩
        have HX3 := Lib.hid (HX2.out.next (by simp) hb)
        have HB3 := Lib.hid (HB2.out.trans (hb.mono HB2.out.size))
        have HR3 := Lib.hid hr5
        have HN3 := Lib.hid hnr5
        have HNO := Lib.hid hno5
        have HO3 := Lib.hid (own_keep HO2.out (fun j _ hj => hb.block j hj))
        have hs3 := hb.size
        clear hr5 hnr5 hno5 hb f0 f3
        go_wp2_with (first
          | (refine wpList_store_box layAns rfl (.tmp 11) (.tmp 51) rfl (⟨ye, yr, yb, yl, 0⟩ : Ans) rfl rfl rfl ?_; intro w5 hw4 ht4 hb4 hs4; have HA5 : Hid (Box w5 w3.heap.size (Ans.cells ⟨ye, yr, yb, yl, 0⟩)) := ⟨hw4, ht4⟩; have HX5 := Lib.hid (HX3.out.next (by simp) hb4); have HB5 := Lib.hid (HB3.out.trans (hb4.mono HB3.out.size)); have HR5 := Lib.hid (LRow.below HR3.out hb4); have HO5 := Lib.hid (own_keep HO3.out (fun j _ hj => hb4.block j hj)); have hs5 := hb4.size; clear hw4 ht4 hb4 hs4)
          | (refine wpList_load_as layHcm rfl (.tmp 9) rfl wr.heap.size 0 rfl ⟨k, x1, x2, te, ra, bu, x6, x7, x8, x9, x10, x11, ls⟩ (HCmd.agg ⟨k, x1, x2, te, ra, bu, x6, x7, x8, x9, x10, x11, ls⟩) rfl HX5.out.range ?_)
          | (refine wpList_load_as layAns rfl (.tmp 11) rfl w3.heap.size 0 rfl ⟨ye, yr, yb, yl, 0⟩ (Ans.agg ⟨ye, yr, yb, yl, 0⟩) rfl HA5.out.range ?_)
          | (at_builtin; refine wpList_pushC rfl (.tmp 60) (.tmp 70) rfl w.heap.size ac i cc (callsW xs v i) hcl rfl HO5.out ⟨⟨k, x1, x2, te, ra, bu, x6, x7, x8, x9, x10, x11, ls⟩, 2 * (i : Int) + 1, 2 * (i : Int) + 2, ⟨ye, yr, yb, yl, 0⟩⟩ rfl rfl (by omega) HB5.out.size ?_; intro a6 c6 w6 ho6 hg6 hn6; have HO6 := Lib.hid ho6; have HG6 := Lib.hid hg6; have HN6 := Lib.hid hn6; clear ho6 hg6 hn6))
        go_roundw
        case rel => exact ⟨i + 1, a5, c5, a6, c6, by omega, by go_num, by rw [HTB.out], rfl, by rw [HBD.out] <;> (first | rfl | simp), by rw [HTB.out]; exact hle5, HNO.out, by rw [HTB.out]; exact row_pushed HR5.out HG6.out ((ap5 HN3.out (own_place HOW.out) hs2')), by rw [HCW.out, HAW.out]; exact HO6.out, by rw [HTB.out]; exact ap6 HR5.out HN6.out (ap5 HN3.out (own_place HOW.out) hs2'), HAN2.out, HB5.out.trans (((Below.refl w.heap.size w5).alloc HB5.out.size _).trans (grown_below HG6.out (by simp; have := HB5.out.size; omega) (fun b o s e => (own_place HOW.out b o s e).1)))⟩
        case measure => simp [intOf]; omega
    · obtain rfl : i = xs.length := by omega
      have hq0 : decide ((xs.length : Int) < (xs.length : Int)) = false := decide_eq_false (by omega)
      have hall : ∀ x ∈ xs, asksC x = true := fun x hx => by
        obtain ⟨j, hj, rfl⟩ := List.mem_iff_getElem.1 hx
        exact HAS.out j hj hj
      have hcr : LRow layCal wr ac (callsW xs v xs.length) := own_row HOW.out
      have HFT := Lib.hid (hfits_any (callsW xs v xs.length) ac xs.length cc wr (callsW_len _ _ _) (by omega) hcr (row_far hcr) (HTAB.out.on HB.out).here)
      have hfc := fits_chain xs v (by omega) hall
      by_cases hbad : 0 ≤ v ∧ v < (xs.length : Int)
      · rw [if_pos hbad] at hfc
        rw [decide_eq_true hbad]
        have HFC := Lib.hid hfc
        clear hfc hbad hall hcr
        go_wp2_with (go_at_call 14; ((with_reducible refine HFT.out.mono ?_); intro e w2 hret; rw [RetFits, HFC.out] at hret; obtain ⟨a8, c8, rfl, -, -, hb⟩ := hret; have HB2 := Lib.hid (HB.out.trans (hb.mono HB.out.size)); clear hb))
        go_loopw [88] (fun s88 ws => s88 = .int .i64 0 ∧ ws = w2) (fun _ _ => 0)
        case atStart => (constructor <;> first | rfl | trivial)
        case round =>
          obtain ⟨rfl, rfl⟩ := hrel
          go_wp2_with (go_at_call 8; ((with_reducible refine (WK.out _ HB2.out).mono ?_); rintro e w9 ⟨rfl, hb⟩; have HB9 := Lib.hid (HB2.out.trans (hb.mono HB2.out.size)); clear hb))
          go_returns
          exact ⟨rfl, HB9.out⟩
      · rw [if_neg hbad] at hfc
        rw [decide_eq_false hbad]
        have HFC := Lib.hid hfc
        clear hfc hbad hall hcr
        have hrl : (List.range' 0 xs.length).length = xs.length := List.length_range'
        go_wp2_with (go_at_call 14; ((with_reducible refine HFT.out.mono ?_); intro e w2 hret; rw [RetFits, HFC.out] at hret; obtain ⟨a8, c8, rfl, hr8, -, hb⟩ := hret; have HB2 := Lib.hid (HB.out.trans (hb.mono HB.out.size)); have HR8 := Lib.hid hr8; clear hb hr8))
        go_loopw [88] (fun s88 ws => ∃ j : Nat, j ≤ xs.length ∧ s88 = .int .i64 j ∧ ws = w2) (fun s88 _ => xs.length - (intOf s88).toNat)
        case atStart => exact ⟨0, by omega, rfl, rfl⟩
        case round =>
          obtain ⟨j, hj, rfl, rfl⟩ := hrel
          by_cases hjl : j < xs.length
          · obtain ⟨b3, o3, ha3, hc3⟩ := row_ints (zs := (List.range' 0 xs.length).map fun k : Nat => (k : Int)) (by rw [← nums_cast]; exact HR8.out) (i := j) (by simpa using hjl)
            subst ha3
            have e5 : wr.cell? ⟨b3, o3 + j, none⟩ = some (.int .i64 (j : Int)) := by have h := hc3 _ (Below.refl _ _); simpa using h
            have hj0 : decide ((j : Int) < (xs.length : Int)) = true := decide_eq_true (by omega)
            go_wp2
            go_roundw
            case rel => exact ⟨j + 1, by omega, by go_num, by first | rfl | trivial⟩
            case measure => simp [intOf]; omega
          · obtain rfl : j = xs.length := by omega
            go_wp2_with (go_at_call 8; ((with_reducible refine (WK.out _ HB2.out).mono ?_); rintro e w9 ⟨rfl, hb⟩; have HB9 := Lib.hid (HB2.out.trans (hb.mono HB2.out.size)); clear hb))
            go_returns
            exact ⟨rfl, HB9.out⟩
end Go.Proofs.YtkboojpkkhiceaaDoor
