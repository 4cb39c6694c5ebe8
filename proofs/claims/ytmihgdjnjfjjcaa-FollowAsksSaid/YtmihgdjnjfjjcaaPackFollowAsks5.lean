import Derived.Test.YtmihgdjnjfjjcaaFolSort
import Derived.Test.YtmihgdjnjfjjcaaPackFollowAsks4
import Derived.Test.YtmihgdjnjfjjcaaFolTold
set_option linter.unusedVariables false
set_option linter.unusedSimpArgs false
/- A short row sorted from the greatest on, whole (follow.down). -/
namespace Go.Proofs.Ytmihgdjnjfjjcaa
open Go.ChangeShapes Go.WideShapes Go.ChangeAt Go.RowKit
set_option maxRecDepth 100000

def RetSomeI (w : World) (e : Ending) (w' : World) : Prop := ∃ r : Int, e = .returned (.int .i64 r) ∧ w' = w
theorem len64_any (n : Nat) (w : World) (h : n ≤ 7) : Calls Try.prog 64 #[.int .u64 n] w (RetSomeI w) := by
  obtain rfl | rfl | rfl | rfl | rfl | rfl | rfl | rfl : n = 0 ∨ n = 1 ∨ n = 2 ∨ n = 3 ∨ n = 4 ∨ n = 5 ∨ n = 6 ∨ n = 7 := by omega
  all_goals
    go_enter Try.func64, Try.ntmps64
    go_wp2_with fail
    go_ret
    exact ⟨_, rfl, rfl⟩
theorem len_any (n : Nat) (w : World) (h : n ≤ 7) : Calls Try.prog 51 #[.int .u64 n] w (RetSomeI w) := by
  have HL := Lib.hid (fun w' => len64_any n w' h)
  go_enter Try.func51, Try.ntmps51
  go_wp2_with (go_at_call 64; ((with_reducible refine (HL.out _).mono ?_); rintro e w2 ⟨r, rfl, rfl⟩))
  go_ret
  exact ⟨_, rfl, rfl⟩
set_option maxHeartbeats 4000000 in
theorem pdq_any (g n c : Nat) (l : List Int) (lim : Int) (w : World) (hn : l.length = n) (h1 : 1 ≤ n) (h7 : n ≤ 7) (hc : n ≤ c) (hx : Box w g (ints l)) :
    Calls Try.prog 50 #[.slice (some ⟨g, 0, none⟩) n c, .int .i64 0, .int .i64 n, .int .i64 lim, .func (.func 44) #[] #[]] w (RetSort w g l) := by
  have HI := Lib.hid (insertion_any g n c l w hn h1 h7 hc hx)
  have HN := Lib.hid hn
  have hd : decide ((n : Int) ≤ 12) = true := decide_eq_true (by omega)
  clear hx hn
  go_enter Try.func50, Try.ntmps50
  go_wp2_with fail
  go_loopw [1, 2, 3] (fun a b q wr => a = .int .i64 0 ∧ b = .int .i64 n ∧ q = .int .i64 lim ∧ wr = w) (fun _ _ _ _ => 0)
  case atStart => exact ⟨rfl, rfl, rfl, rfl⟩
  case round =>
    obtain ⟨rfl, rfl, rfl, hw⟩ := hrel
    subst hw
    go_wp2_with (go_at_call 55; ((with_reducible refine HI.out.mono ?_); rintro e w2 ⟨rfl, hs⟩; have HS := Lib.hid hs; clear hs))
    go_end0
    exact ⟨rfl, HS.out⟩
set_option maxHeartbeats 4000000 in
theorem sortFunc_any (g n c : Nat) (l : List Int) (w : World) (hn : l.length = n) (h1 : 1 ≤ n) (h7 : n ≤ 7) (hc : n ≤ c) (hx : Box w g (ints l)) :
    Calls Try.prog 43 #[.slice (some ⟨g, 0, none⟩) n c, .func (.func 44) #[] #[]] w (RetSort w g l) := by
  have HP := Lib.hid (fun lim => pdq_any g n c l lim w hn h1 h7 hc hx)
  have HL := Lib.hid (fun w' => len_any n w' h7)
  have HN := Lib.hid hn
  clear hx hn
  go_enter Try.func43, Try.ntmps43
  go_wp2_with (first
    | (go_at_call 51; ((with_reducible refine (HL.out _).mono ?_); rintro e w2 ⟨r, rfl, rfl⟩))
    | (go_at_call 50; ((with_reducible refine (HP.out _).mono ?_); rintro e w2 ⟨rfl, hs⟩; have HS := Lib.hid hs; clear hs)))
  go_end0
  exact ⟨rfl, HS.out⟩
set_option maxHeartbeats 4000000 in
theorem down_any (g n c : Nat) (l : List Int) (w : World) (hn : l.length = n) (h1 : 1 ≤ n) (h7 : n ≤ 7) (hc : n ≤ c) (hx : Box w g (ints l)) :
    Calls Try.prog 31 #[.slice (some ⟨g, 0, none⟩) n c] w (RetSort w g l) := by
  have HP := Lib.hid (sortFunc_any g n c l w hn h1 h7 hc hx)
  have HN := Lib.hid hn
  clear hx hn
  go_enter Try.func31, Try.ntmps31
  go_wp2_with (go_at_call 43; ((with_reducible refine HP.out.mono ?_); rintro e w2 ⟨rfl, hs⟩; have HS := Lib.hid hs; clear hs))
  go_end0
  exact ⟨rfl, HS.out⟩
end Go.Proofs.Ytmihgdjnjfjjcaa

/- A row of numbers of the call's own: a number behind it; the row as a variable. -/
namespace Go.Proofs.Ytmihgdjnjfjjcaa
open Go.ChangeShapes Go.WideShapes Go.ChangeAt Go.RowKit
set_option maxRecDepth 100000

theorem el_ints : Elem Try.prog 43 3 1 8 where
  under := Try.underlying43
  info := by
    have h : (Try.prog.info? 3).map (fun i => (i.zero, i.size, i.bytes)) = some (some (.int .i64 0), 1, 8) := by kernel_rfl
    obtain ⟨i, hi, h0, h1, h2⟩ := info_parts h
    exact ⟨i, _, hi, h0, h1, h2, rfl⟩
  pos := by decide
  bpos := by decide
abbrev OwnI (w : World) (B : Nat) (a : Option Addr) (n c : Nat) (xs : List Int) : Prop := w.ownsRow B 3 1 (.slice a n c) n (ints xs)
theorem OwnI.next {w w' : World} {B : Nat} {a : Option Addr} {n c : Nat} {xs : List Int} (h : OwnI w B a n c xs) (hb : Below w.heap.size w w') : OwnI w' B a n c xs :=
  own_mid (B := 0) h (Mid.below hb (Nat.le_refl _)) (Nat.zero_le _) (Nat.le_refl _)
theorem wpList_int1 {ops : Array Oper} {rest : List Oper} {op : Oper} {ac : Act} {w : World} {te : TypeId} {Q : Exit → Act → World → Prop} (hgd : op.guard = none) (s x : Operand)
    (ho : op.op = .call { callee := .builtin .append, args := #[s, x], argTypes := #[43, 43] }) (B : Nat) (a : Option Addr) (n c : Nat) (xs : List Int) (hs : ac.eval s = .slice a n c) (hown : OwnI w B a n c xs)
    (y : Int) (H : Nat) (hH : w.heap.size = H) (hx : ac.eval x = .slice (some ⟨H, 0, none⟩) 1 1) (hby : (n + 1) * 8 ≤ 140737488355328) (hB : B ≤ w.heap.size)
    (h : ∀ a' c' w', OwnI w' B a' (n + 1) c' (xs ++ [y]) → Below B w w' → w.heap.size < w'.heap.size → wpList Try.prog ops Q rest (ac.put op.dst (.slice a' (n + 1) c')) w') : wpList Try.prog ops Q (op :: rest) ac (w.alloc (.cells #[.int .i64 y] te)) := by
  subst hH
  refine wpList_app el_ints hgd s x ho B (.slice a n c) n _ hs (hown.alloc _) (some ⟨w.heap.size, 0, none⟩) 1 1 [.int .i64 y] hx rfl (Row.new _ _ _ _) (by simp [Value.oneCell']) hby (Nat.le_trans hB (by simp)) ?_
  intro a' c' w' ho2 hg2
  have hbb := Below.app ((Below.refl B w).alloc hB (.cells #[.int .i64 y] te)) (hown.alloc _) hg2 (Nat.le_trans hB (by simp))
  refine h a' c' w' ?_ hbb ?_
  · show World.ownsRow _ _ _ _ _ _ _
    rw [show ints (xs ++ [y]) = ints xs ++ [.int .i64 y] from List.map_append]
    exact ho2
  · have := hg2.size; simp at this; omega
theorem OwnI.box {w : World} {B : Nat} {a : Option Addr} {n c : Nat} {xs : List Int} (h : OwnI w B a n c xs) (h0 : 0 < n) (hn : xs.length = n) : ∃ g, a = some ⟨g, 0, none⟩ ∧ B ≤ g ∧ n ≤ c ∧ Box w g (ints xs) := by
  obtain ⟨hl, h⟩ := h
  rcases h with ⟨hv, hz⟩ | ⟨g, cap, cur, hv, hB, hg, hnc, hm, hs, ht⟩
  · omega
  · simp only [Value.slice.injEq] at hv
    obtain ⟨rfl, _, rfl⟩ := hv
    have hcell : ∀ j, w.cell? ⟨g, 0 + j, none⟩ = cur[j]? := fun j => by simp [World.cell?, hg]
    refine ⟨g, rfl, hB, hnc, fun j v hv => ?_, fun j hj => ?_⟩
    · rw [hcell]
      rw [← ht, List.getElem?_take] at hv
      split at hv
      · simpa using hv
      · cases hv
    · rw [List.length_map, hn] at hj
      rw [hcell, Array.getElem?_eq_getElem (by omega)]
      exact ⟨rfl, by simp [World.frozen?, hg]⟩
end Go.Proofs.Ytmihgdjnjfjjcaa

/- Entries from an index on (rows.From). (printed by gen_rwfrom.py) -/
namespace Go.Proofs.Ytmihgdjnjfjjcaa
open Go.ChangeShapes Go.WideShapes Go.ChangeAt Go.RowKit
set_option maxRecDepth 100000

def fromF (b t : Int) (es : List WEnt) (i most : Int) : List WEnt × Int :=
  if okR b t es = true then (if i ≤ b ∨ b + es.length + 1 < i then ([], 4) else ((es.drop (i - b - 1).toNat).take (cl 0 16 most).toNat, 0)) else ([], 90)
def RetFrom (w : World) (r : List WEnt × Int) (e : Ending) (w' : World) : Prop := ∃ (a : Option Addr) (c : Nat) (fs : List RwE), e = .returned (.tuple #[.slice a fs.length c, .int .i64 r.2]) ∧ ents fs = r.1 ∧ Row w' a (fs.flatMap cellsRw) ∧ (∀ y ∈ fs, RowB w' y.2.1 y.1.data) ∧ Below w.heap.size w w'
abbrev GoodE (w : World) (y : RwE) : Prop := RowB w y.2.1 y.1.data ∧ y.1.data.length ≤ 1000000 ∧ y.1.data.length ≤ y.2.2 ∧ (y.2.1 = none → y.2.2 = 0)
theorem ents_cut (es : List RwE) (k m : Nat) : ents ((es.drop k).take m) = ((ents es).drop k).take m := by
  show ((es.drop k).take m).map Prod.fst = _
  rw [List.map_take, List.map_drop]
theorem from_row {w : World} {b o : Nat} {es : List RwE} (h : Row w (some ⟨b, o, none⟩) (es.flatMap cellsRw)) (k m : Nat) : Row w (some ⟨b, o + k * 5, none⟩) (((es.drop k).take m).flatMap cellsRw) :=
  LRow.take (L := layRw) (LRow.drop (L := layRw) h k) m
/-- Some entries of a row, copied. -/
theorem copied_cut (es : List RwE) (b o : Nat) (k m : Nat) (w : World) (L : Nat) (hL : ((es.drop k).take m).length = L) (h0 : 0 < L) (hl : es.length ≤ 1000000) (hle : ∀ y ∈ es, GoodE w y) (hr : Row w (some ⟨b, o, none⟩) (es.flatMap cellsRw)) :
    Calls Try.prog 47 #[.slice (some ⟨b, o + k * 5, none⟩) L L] w (RetCp w ((es.drop k).take m)) :=
  copied_any _ _ L L w hL (by rw [← hL]; exact Nat.le_trans (List.length_take_le' _ _) (Nat.le_trans (by rw [List.length_drop]; omega) hl)) (fun h => by cases h) (Nat.le_refl _) (fun y hy => hle y (List.mem_of_mem_drop (List.mem_of_mem_take hy))) (from_row hr k m)
theorem copied_nil (a : Option Addr) (w : World) : Calls Try.prog 47 #[.slice a 0 0] w (RetCp w []) :=
  copied_any [] a 0 0 w rfl (by decide) (fun _ => rfl) (Nat.le_refl _) (fun y hy => by cases hy) (.inl rfl)
set_option maxHeartbeats 16000000 in
theorem from_any (es : List RwE) (b t : Int) (a : Option Addr) (n c : Nat) (i most : Int) (w : World) (hn : es.length = n) (hl : n ≤ 1000000) (hc : a = none → c = 0) (hnc : n ≤ c) (hcm : c ≤ 4000000000000000) (hle : ∀ y ∈ es, GoodE w y) (hr : Row w a (es.flatMap cellsRw)) (hi : InI i) :
    Calls Try.prog 38 #[.agg #[.int .i64 b, .int .i64 t, .slice a n c], .int .i64 i, .int .i64 most] w (RetFrom w (fromF b t (ents es) i most)) := by
  have hlen : (ents es).length = n := by rw [← hn]; exact List.length_map _
  have HB0 : Hid (Below w.heap.size w (w.alloc (.cells #[.int .i64 b, .int .i64 t, .slice a n c] 24))) := mid_alloc' (Below.refl _ _)
  have HX0 : Hid (Box (w.alloc (.cells #[.int .i64 b, .int .i64 t, .slice a n c] 24)) w.heap.size [.int .i64 b, .int .i64 t, .slice a n c]) := Box.of_alloc (w := w) (cs := [.int .i64 b, .int .i64 t, .slice a n c]) (t := 24) (Below.refl _ _)
  have HC := Lib.hid (fun w' (hb : Below w.heap.size w w') => check_any es b t a n c w' hn hl (hr.mono_below hb))
  have HL := Lib.hid (fun w' g (hb : Below w.heap.size w w') (hx : Box w' g [.int .i64 b, .int .i64 t, .slice a n c]) => last_any es b t a n c g w' hn hl (hr.mono_below hb) hx)
  unfold InI at hi
  rcases hok : okR b t (ents es) with _ | _
  · rw [chk_not hok] at HC
    rw [show fromF b t (ents es) i most = ([], 90) from if_neg (by rw [hok]; exact Bool.false_ne_true)]
    clear hok hlen hr hn hle hc hnc
    go_enter Try.func38, Try.ntmps38
    go_wp2_with (first
      | (have hgq := HX1; clear hgq; go_at_call 28; ((with_reducible refine (HC.out _ HB1.out).mono ?_); rintro e w2 ⟨rfl, hb⟩; have HX2 := Lib.hid (HX1.out.next (by simp) hb); have HB2 := Lib.hid (HB1.out.trans (hb.mono HB1.out.size)); clear hb k0 k1 k2; have k0 := HX2.out.cell (j := 0) rfl; have k1 := HX2.out.cell (j := 1) rfl; have k2 := HX2.out.cell (j := 2) rfl))
      | (go_at_call 42; ((with_reducible refine (HL.out _ _ HB0.out HX0.out).mono ?_); rintro e w1 ⟨iv, rfl, hiv, nd, rfl⟩; clear hiv; have HX1 := Lib.hid (HX0.out.below (below_drewN (Below.refl _ _) nd) (HX0.out.lt (by simp))); have HB1 := Lib.hid (below_drewN HB0.out nd); have k0 := HX1.out.cell (j := 0) rfl; have k1 := HX1.out.cell (j := 1) rfl; have k2 := HX1.out.cell (j := 2) rfl)))
    go_ret2
    exact ⟨none, 0, [], rfl, rfl, .inl rfl, (fun y hy => by cases hy), HB2.out⟩
  have hob := ok_bounds hok
  have hb1 : 0 ≤ b := hob.1
  have hb2 : b + (n : Int) ≤ 1099511627776 := by have := hob.2.2.1; rw [hlen] at this; exact this
  rw [chk_ok hok] at HC
  have HIV : Hid (∀ iv : Int, (0 ≤ b → b ≤ 1099511627776 → iv = b + ((ents es).length : Int)) → iv = b + (n : Int)) := fun iv h => by rw [h hb1 (by omega), hlen]
  by_cases h1 : i ≤ b
  · rw [show fromF b t (ents es) i most = ([], 4) by unfold fromF; rw [if_pos hok, if_pos (.inl h1)]]
    have d1 : decide (i ≤ b) = true := decide_eq_true h1
    clear hok hlen hr hn hle hc hnc hob
    go_enter Try.func38, Try.ntmps38
    go_wp2_with (first
      | (have hgq := HX1; clear hgq; go_at_call 28; ((with_reducible refine (HC.out _ HB1.out).mono ?_); rintro e w2 ⟨rfl, hb⟩; have HX2 := Lib.hid (HX1.out.next (by simp) hb); have HB2 := Lib.hid (HB1.out.trans (hb.mono HB1.out.size)); clear hb k0 k1 k2; have k0 := HX2.out.cell (j := 0) rfl; have k1 := HX2.out.cell (j := 1) rfl; have k2 := HX2.out.cell (j := 2) rfl))
      | (go_at_call 42; ((with_reducible refine (HL.out _ _ HB0.out HX0.out).mono ?_); rintro e w1 ⟨iv, rfl, hiv, nd, rfl⟩; obtain rfl := HIV.out iv hiv; clear hiv; have HX1 := Lib.hid (HX0.out.below (below_drewN (Below.refl _ _) nd) (HX0.out.lt (by simp))); have HB1 := Lib.hid (below_drewN HB0.out nd); have k0 := HX1.out.cell (j := 0) rfl; have k1 := HX1.out.cell (j := 1) rfl; have k2 := HX1.out.cell (j := 2) rfl)))
    go_ret2
    exact ⟨none, 0, [], rfl, rfl, .inl rfl, (fun y hy => by cases hy), HB2.out⟩
  have d1 : decide (i ≤ b) = false := decide_eq_false h1
  by_cases h2 : b + (n : Int) + 1 < i
  · rw [show fromF b t (ents es) i most = ([], 4) by unfold fromF; rw [if_pos hok, if_pos (.inr (by rw [hlen]; exact h2))]]
    have d2 : decide (b + (n : Int) + 1 < i) = true := decide_eq_true h2
    clear hok hlen hr hn hle hc hnc hob
    go_enter Try.func38, Try.ntmps38
    go_wp2_with (first
      | (have hgq := HX1; clear hgq; go_at_call 28; ((with_reducible refine (HC.out _ HB1.out).mono ?_); rintro e w2 ⟨rfl, hb⟩; have HX2 := Lib.hid (HX1.out.next (by simp) hb); have HB2 := Lib.hid (HB1.out.trans (hb.mono HB1.out.size)); clear hb k0 k1 k2; have k0 := HX2.out.cell (j := 0) rfl; have k1 := HX2.out.cell (j := 1) rfl; have k2 := HX2.out.cell (j := 2) rfl))
      | (go_at_call 42; ((with_reducible refine (HL.out _ _ HB0.out HX0.out).mono ?_); rintro e w1 ⟨iv, rfl, hiv, nd, rfl⟩; obtain rfl := HIV.out iv hiv; clear hiv; have HX1 := Lib.hid (HX0.out.below (below_drewN (Below.refl _ _) nd) (HX0.out.lt (by simp))); have HB1 := Lib.hid (below_drewN HB0.out nd); have k0 := HX1.out.cell (j := 0) rfl; have k1 := HX1.out.cell (j := 1) rfl; have k2 := HX1.out.cell (j := 2) rfl)))
    go_ret2
    exact ⟨none, 0, [], rfl, rfl, .inl rfl, (fun y hy => by cases hy), HB2.out⟩
  have d2 : decide (b + (n : Int) + 1 < i) = false := decide_eq_false h2
  rw [show fromF b t (ents es) i most = (((ents es).drop (i - b - 1).toNat).take (cl 0 16 most).toNat, 0) by unfold fromF; rw [if_pos hok, if_neg (by rw [hlen]; omega)]]
  rw [← ents_cut]
  obtain ⟨K, g4⟩ : ∃ k, (i - b - 1).toNat = k := ⟨_, rfl⟩
  obtain ⟨m, hm⟩ : ∃ m, cl 0 16 most = m := ⟨_, rfl⟩
  rw [g4, hm]
  have hKn : K ≤ n := by omega
  have hm0 : 0 ≤ m ∧ m ≤ 16 := by rw [← hm]; exact cl_bd (by decide)
  obtain ⟨M, hM⟩ : ∃ M : Nat, M = min (K + m.toNat) n := ⟨_, rfl⟩
  have hMn : K ≤ M ∧ M ≤ n := by omega
  have hcut : ((es.drop K).take m.toNat).length = M - K := by rw [List.length_take, List.length_drop, hn]; omega
  have e1 : (0 : Int) ≤ i - b - 1 := by omega
  have hal : 0 < M - K → ∃ bb oo, a = some ⟨bb, oo, none⟩ := fun h => by
    cases a with
    | some ad =>
      rcases hr with h3 | ⟨b1, o1, h3, _⟩
      · have := congrArg List.length h3; rw [flatMap_len (size := 5) (fun _ => rfl)] at this; simp at this; omega
      · exact ⟨b1, o1, h3⟩
    | none => have := hc rfl; omega
  have HCU : Hid (0 < M - K → ∀ bb oo, a = some ⟨bb, oo, none⟩ → ∀ w', Below w.heap.size w w' → Calls Try.prog 47 #[.slice (some ⟨bb, oo + K * 5, none⟩) (M - K) (M - K)] w' (RetCp w' ((es.drop K).take m.toNat))) := fun h bb oo ha w' hb => by
    subst ha
    exact copied_cut es bb oo K m.toNat w' (M - K) hcut h (by omega) (fun y hy => ⟨(hle y hy).1.below hb, (hle y hy).2⟩) (hr.mono_below hb)
  have HCN : Hid (M = K → ∀ a' w', Calls Try.prog 47 #[.slice a' 0 0] w' (RetCp w' ((es.drop K).take m.toNat))) := fun h a' w' => by
    have : (es.drop K).take m.toNat = [] := List.eq_nil_of_length_eq_zero (by omega)
    rw [this]; exact copied_nil a' w'
  generalize (es.drop K).take m.toNat = fs at HCU HCN ⊢
  clear hok hlen hn hle hr hcut hob
  by_cases p1 : most < 0
  · obtain rfl : m = 0 := by rw [← hm]; unfold cl; omega
    clear hm
    have d5 : ¬ (n : Int) < i - b - 1 := by omega
    have p4 : M = K := by simp only [Int.toNat_zero] at hM; omega
    subst p4
    rcases a with _ | ⟨bb, oo, r3⟩
    · clear hc
      have e2 : i - b - 1 ≤ i - b - 1 := by omega
      have e3 : i - b - 1 ≤ (c : Int) := by omega
      have HCM := Lib.hid (HCN.out rfl)
      clear HCN
      clear hM hMn hm0 hal hKn
      go_enter Try.func38, Try.ntmps38
      go_wp2_with (first
        | (have hgq := HX1; clear hgq; go_at_call 28; ((with_reducible refine (HC.out _ HB1.out).mono ?_); rintro e w2 ⟨rfl, hb⟩; have HX2 := Lib.hid (HX1.out.next (by simp) hb); have HB2 := Lib.hid (HB1.out.trans (hb.mono HB1.out.size)); clear hb k0 k1 k2; have k0 := HX2.out.cell (j := 0) rfl; have k1 := HX2.out.cell (j := 1) rfl; have k2 := HX2.out.cell (j := 2) rfl))
        | (go_at_call 42; ((with_reducible refine (HL.out _ _ HB0.out HX0.out).mono ?_); rintro e w1 ⟨iv, rfl, hiv, nd, rfl⟩; obtain rfl := HIV.out iv hiv; clear hiv; have HX1 := Lib.hid (HX0.out.below (below_drewN (Below.refl _ _) nd) (HX0.out.lt (by simp))); have HB1 := Lib.hid (below_drewN HB0.out nd); have k0 := HX1.out.cell (j := 0) rfl; have k1 := HX1.out.cell (j := 1) rfl; have k2 := HX1.out.cell (j := 2) rfl))
        | (go_at_call 47; ((with_reducible refine (HCM.out _ _).mono ?_); rintro e w3 ⟨a3, c3, fs3, rfl, he3, hr3, hy3, hb3⟩)))
      go_ret2
      exact ⟨a3, c3, fs3, rfl, he3, hr3, hy3, HB2.out.trans (hb3.mono HB2.out.size)⟩
    · skip
      have e2 : i - b - 1 ≤ i - b - 1 := by omega
      have e3 : i - b - 1 ≤ (c : Int) := by omega
      have HCM := Lib.hid (HCN.out rfl)
      clear HCN
      clear hM hMn hm0 hal hKn
      go_enter Try.func38, Try.ntmps38
      go_wp2_with (first
        | (have hgq := HX1; clear hgq; go_at_call 28; ((with_reducible refine (HC.out _ HB1.out).mono ?_); rintro e w2 ⟨rfl, hb⟩; have HX2 := Lib.hid (HX1.out.next (by simp) hb); have HB2 := Lib.hid (HB1.out.trans (hb.mono HB1.out.size)); clear hb k0 k1 k2; have k0 := HX2.out.cell (j := 0) rfl; have k1 := HX2.out.cell (j := 1) rfl; have k2 := HX2.out.cell (j := 2) rfl))
        | (go_at_call 42; ((with_reducible refine (HL.out _ _ HB0.out HX0.out).mono ?_); rintro e w1 ⟨iv, rfl, hiv, nd, rfl⟩; obtain rfl := HIV.out iv hiv; clear hiv; have HX1 := Lib.hid (HX0.out.below (below_drewN (Below.refl _ _) nd) (HX0.out.lt (by simp))); have HB1 := Lib.hid (below_drewN HB0.out nd); have k0 := HX1.out.cell (j := 0) rfl; have k1 := HX1.out.cell (j := 1) rfl; have k2 := HX1.out.cell (j := 2) rfl))
        | (go_at_call 47; ((with_reducible refine (HCM.out _ _).mono ?_); rintro e w3 ⟨a3, c3, fs3, rfl, he3, hr3, hy3, hb3⟩)))
      go_ret2
      exact ⟨a3, c3, fs3, rfl, he3, hr3, hy3, HB2.out.trans (hb3.mono HB2.out.size)⟩
  by_cases p2 : (16 : Int) < most
  · obtain rfl : m = 16 := by rw [← hm]; unfold cl; omega
    clear hm
    have d3 : ¬ most < 0 := p1
    by_cases p3 : (n : Int) < i - b - 1 + 16
    · by_cases p4 : M = K
      · skip
        subst p4
        have q : n = M := by omega
        subst q
        rcases a with _ | ⟨bb, oo, r3⟩
        · clear hc
          have e2 : i - b - 1 ≤ (n : Int) := by omega
          have e3 : (n : Int) ≤ (c : Int) := by omega
          have HCM := Lib.hid (HCN.out rfl)
          clear HCN
          clear hM hMn hm0 hal hKn
          go_enter Try.func38, Try.ntmps38
          go_wp2_with (first
            | (have hgq := HX1; clear hgq; go_at_call 28; ((with_reducible refine (HC.out _ HB1.out).mono ?_); rintro e w2 ⟨rfl, hb⟩; have HX2 := Lib.hid (HX1.out.next (by simp) hb); have HB2 := Lib.hid (HB1.out.trans (hb.mono HB1.out.size)); clear hb k0 k1 k2; have k0 := HX2.out.cell (j := 0) rfl; have k1 := HX2.out.cell (j := 1) rfl; have k2 := HX2.out.cell (j := 2) rfl))
            | (go_at_call 42; ((with_reducible refine (HL.out _ _ HB0.out HX0.out).mono ?_); rintro e w1 ⟨iv, rfl, hiv, nd, rfl⟩; obtain rfl := HIV.out iv hiv; clear hiv; have HX1 := Lib.hid (HX0.out.below (below_drewN (Below.refl _ _) nd) (HX0.out.lt (by simp))); have HB1 := Lib.hid (below_drewN HB0.out nd); have k0 := HX1.out.cell (j := 0) rfl; have k1 := HX1.out.cell (j := 1) rfl; have k2 := HX1.out.cell (j := 2) rfl))
            | (go_at_call 47; ((with_reducible refine (HCM.out _ _).mono ?_); rintro e w3 ⟨a3, c3, fs3, rfl, he3, hr3, hy3, hb3⟩)))
          go_ret2
          exact ⟨a3, c3, fs3, rfl, he3, hr3, hy3, HB2.out.trans (hb3.mono HB2.out.size)⟩
        · skip
          have e2 : i - b - 1 ≤ (n : Int) := by omega
          have e3 : (n : Int) ≤ (c : Int) := by omega
          have HCM := Lib.hid (HCN.out rfl)
          clear HCN
          clear hM hMn hm0 hal hKn
          go_enter Try.func38, Try.ntmps38
          go_wp2_with (first
            | (have hgq := HX1; clear hgq; go_at_call 28; ((with_reducible refine (HC.out _ HB1.out).mono ?_); rintro e w2 ⟨rfl, hb⟩; have HX2 := Lib.hid (HX1.out.next (by simp) hb); have HB2 := Lib.hid (HB1.out.trans (hb.mono HB1.out.size)); clear hb k0 k1 k2; have k0 := HX2.out.cell (j := 0) rfl; have k1 := HX2.out.cell (j := 1) rfl; have k2 := HX2.out.cell (j := 2) rfl))
            | (go_at_call 42; ((with_reducible refine (HL.out _ _ HB0.out HX0.out).mono ?_); rintro e w1 ⟨iv, rfl, hiv, nd, rfl⟩; obtain rfl := HIV.out iv hiv; clear hiv; have HX1 := Lib.hid (HX0.out.below (below_drewN (Below.refl _ _) nd) (HX0.out.lt (by simp))); have HB1 := Lib.hid (below_drewN HB0.out nd); have k0 := HX1.out.cell (j := 0) rfl; have k1 := HX1.out.cell (j := 1) rfl; have k2 := HX1.out.cell (j := 2) rfl))
            | (go_at_call 47; ((with_reducible refine (HCM.out _ _).mono ?_); rintro e w3 ⟨a3, c3, fs3, rfl, he3, hr3, hy3, hb3⟩)))
          go_ret2
          exact ⟨a3, c3, fs3, rfl, he3, hr3, hy3, HB2.out.trans (hb3.mono HB2.out.size)⟩
      · skip
        have hlt : 0 < M - K := by omega
        obtain ⟨bb, oo, rfl⟩ := hal hlt
        have e2 : i - b - 1 ≤ (n : Int) := by omega
        have e3 : (n : Int) ≤ (c : Int) := by omega
        have g5 : (n : Int).toNat = M := by omega
        clear hM hMn hm0 hal hKn
        go_enter Try.func38, Try.ntmps38
        go_wp2_with (first
          | (have hgq := HX1; clear hgq; go_at_call 28; ((with_reducible refine (HC.out _ HB1.out).mono ?_); rintro e w2 ⟨rfl, hb⟩; have HX2 := Lib.hid (HX1.out.next (by simp) hb); have HB2 := Lib.hid (HB1.out.trans (hb.mono HB1.out.size)); clear hb k0 k1 k2; have k0 := HX2.out.cell (j := 0) rfl; have k1 := HX2.out.cell (j := 1) rfl; have k2 := HX2.out.cell (j := 2) rfl))
          | (go_at_call 42; ((with_reducible refine (HL.out _ _ HB0.out HX0.out).mono ?_); rintro e w1 ⟨iv, rfl, hiv, nd, rfl⟩; obtain rfl := HIV.out iv hiv; clear hiv; have HX1 := Lib.hid (HX0.out.below (below_drewN (Below.refl _ _) nd) (HX0.out.lt (by simp))); have HB1 := Lib.hid (below_drewN HB0.out nd); have k0 := HX1.out.cell (j := 0) rfl; have k1 := HX1.out.cell (j := 1) rfl; have k2 := HX1.out.cell (j := 2) rfl))
          | (go_at_call 47; ((with_reducible refine (HCU.out hlt _ _ rfl _ HB2.out).mono ?_); rintro e w3 ⟨a3, c3, fs3, rfl, he3, hr3, hy3, hb3⟩)))
        go_ret2
        exact ⟨a3, c3, fs3, rfl, he3, hr3, hy3, HB2.out.trans (hb3.mono HB2.out.size)⟩
    · skip
      have hlt : 0 < M - K := by omega
      obtain ⟨bb, oo, rfl⟩ := hal hlt
      have e2 : i - b - 1 ≤ i - b - 1 + 16 := by omega
      have e3 : i - b - 1 + 16 ≤ (c : Int) := by omega
      have g5 : (i - b - 1 + 16).toNat = M := by omega
      clear hM hMn hm0 hal hKn
      go_enter Try.func38, Try.ntmps38
      go_wp2_with (first
        | (have hgq := HX1; clear hgq; go_at_call 28; ((with_reducible refine (HC.out _ HB1.out).mono ?_); rintro e w2 ⟨rfl, hb⟩; have HX2 := Lib.hid (HX1.out.next (by simp) hb); have HB2 := Lib.hid (HB1.out.trans (hb.mono HB1.out.size)); clear hb k0 k1 k2; have k0 := HX2.out.cell (j := 0) rfl; have k1 := HX2.out.cell (j := 1) rfl; have k2 := HX2.out.cell (j := 2) rfl))
        | (go_at_call 42; ((with_reducible refine (HL.out _ _ HB0.out HX0.out).mono ?_); rintro e w1 ⟨iv, rfl, hiv, nd, rfl⟩; obtain rfl := HIV.out iv hiv; clear hiv; have HX1 := Lib.hid (HX0.out.below (below_drewN (Below.refl _ _) nd) (HX0.out.lt (by simp))); have HB1 := Lib.hid (below_drewN HB0.out nd); have k0 := HX1.out.cell (j := 0) rfl; have k1 := HX1.out.cell (j := 1) rfl; have k2 := HX1.out.cell (j := 2) rfl))
        | (go_at_call 47; ((with_reducible refine (HCU.out hlt _ _ rfl _ HB2.out).mono ?_); rintro e w3 ⟨a3, c3, fs3, rfl, he3, hr3, hy3, hb3⟩)))
      go_ret2
      exact ⟨a3, c3, fs3, rfl, he3, hr3, hy3, HB2.out.trans (hb3.mono HB2.out.size)⟩
  have hmm : m = most := by rw [← hm]; unfold cl; omega
  clear hm
  subst hmm
  by_cases p3 : (n : Int) < i - b - 1 + m
  · by_cases p4 : M = K
    · skip
      subst p4
      have q : n = M := by omega
      subst q
      rcases a with _ | ⟨bb, oo, r3⟩
      · clear hc
        have e2 : i - b - 1 ≤ (n : Int) := by omega
        have e3 : (n : Int) ≤ (c : Int) := by omega
        have HCM := Lib.hid (HCN.out rfl)
        clear HCN
        clear hM hMn hm0 hal hKn
        go_enter Try.func38, Try.ntmps38
        go_wp2_with (first
          | (have hgq := HX1; clear hgq; go_at_call 28; ((with_reducible refine (HC.out _ HB1.out).mono ?_); rintro e w2 ⟨rfl, hb⟩; have HX2 := Lib.hid (HX1.out.next (by simp) hb); have HB2 := Lib.hid (HB1.out.trans (hb.mono HB1.out.size)); clear hb k0 k1 k2; have k0 := HX2.out.cell (j := 0) rfl; have k1 := HX2.out.cell (j := 1) rfl; have k2 := HX2.out.cell (j := 2) rfl))
          | (go_at_call 42; ((with_reducible refine (HL.out _ _ HB0.out HX0.out).mono ?_); rintro e w1 ⟨iv, rfl, hiv, nd, rfl⟩; obtain rfl := HIV.out iv hiv; clear hiv; have HX1 := Lib.hid (HX0.out.below (below_drewN (Below.refl _ _) nd) (HX0.out.lt (by simp))); have HB1 := Lib.hid (below_drewN HB0.out nd); have k0 := HX1.out.cell (j := 0) rfl; have k1 := HX1.out.cell (j := 1) rfl; have k2 := HX1.out.cell (j := 2) rfl))
          | (go_at_call 47; ((with_reducible refine (HCM.out _ _).mono ?_); rintro e w3 ⟨a3, c3, fs3, rfl, he3, hr3, hy3, hb3⟩)))
        go_ret2
        exact ⟨a3, c3, fs3, rfl, he3, hr3, hy3, HB2.out.trans (hb3.mono HB2.out.size)⟩
      · skip
        have e2 : i - b - 1 ≤ (n : Int) := by omega
        have e3 : (n : Int) ≤ (c : Int) := by omega
        have HCM := Lib.hid (HCN.out rfl)
        clear HCN
        clear hM hMn hm0 hal hKn
        go_enter Try.func38, Try.ntmps38
        go_wp2_with (first
          | (have hgq := HX1; clear hgq; go_at_call 28; ((with_reducible refine (HC.out _ HB1.out).mono ?_); rintro e w2 ⟨rfl, hb⟩; have HX2 := Lib.hid (HX1.out.next (by simp) hb); have HB2 := Lib.hid (HB1.out.trans (hb.mono HB1.out.size)); clear hb k0 k1 k2; have k0 := HX2.out.cell (j := 0) rfl; have k1 := HX2.out.cell (j := 1) rfl; have k2 := HX2.out.cell (j := 2) rfl))
          | (go_at_call 42; ((with_reducible refine (HL.out _ _ HB0.out HX0.out).mono ?_); rintro e w1 ⟨iv, rfl, hiv, nd, rfl⟩; obtain rfl := HIV.out iv hiv; clear hiv; have HX1 := Lib.hid (HX0.out.below (below_drewN (Below.refl _ _) nd) (HX0.out.lt (by simp))); have HB1 := Lib.hid (below_drewN HB0.out nd); have k0 := HX1.out.cell (j := 0) rfl; have k1 := HX1.out.cell (j := 1) rfl; have k2 := HX1.out.cell (j := 2) rfl))
          | (go_at_call 47; ((with_reducible refine (HCM.out _ _).mono ?_); rintro e w3 ⟨a3, c3, fs3, rfl, he3, hr3, hy3, hb3⟩)))
        go_ret2
        exact ⟨a3, c3, fs3, rfl, he3, hr3, hy3, HB2.out.trans (hb3.mono HB2.out.size)⟩
    · skip
      have hlt : 0 < M - K := by omega
      obtain ⟨bb, oo, rfl⟩ := hal hlt
      have e2 : i - b - 1 ≤ (n : Int) := by omega
      have e3 : (n : Int) ≤ (c : Int) := by omega
      have g5 : (n : Int).toNat = M := by omega
      clear hM hMn hm0 hal hKn
      go_enter Try.func38, Try.ntmps38
      go_wp2_with (first
        | (have hgq := HX1; clear hgq; go_at_call 28; ((with_reducible refine (HC.out _ HB1.out).mono ?_); rintro e w2 ⟨rfl, hb⟩; have HX2 := Lib.hid (HX1.out.next (by simp) hb); have HB2 := Lib.hid (HB1.out.trans (hb.mono HB1.out.size)); clear hb k0 k1 k2; have k0 := HX2.out.cell (j := 0) rfl; have k1 := HX2.out.cell (j := 1) rfl; have k2 := HX2.out.cell (j := 2) rfl))
        | (go_at_call 42; ((with_reducible refine (HL.out _ _ HB0.out HX0.out).mono ?_); rintro e w1 ⟨iv, rfl, hiv, nd, rfl⟩; obtain rfl := HIV.out iv hiv; clear hiv; have HX1 := Lib.hid (HX0.out.below (below_drewN (Below.refl _ _) nd) (HX0.out.lt (by simp))); have HB1 := Lib.hid (below_drewN HB0.out nd); have k0 := HX1.out.cell (j := 0) rfl; have k1 := HX1.out.cell (j := 1) rfl; have k2 := HX1.out.cell (j := 2) rfl))
        | (go_at_call 47; ((with_reducible refine (HCU.out hlt _ _ rfl _ HB2.out).mono ?_); rintro e w3 ⟨a3, c3, fs3, rfl, he3, hr3, hy3, hb3⟩)))
      go_ret2
      exact ⟨a3, c3, fs3, rfl, he3, hr3, hy3, HB2.out.trans (hb3.mono HB2.out.size)⟩
  · by_cases p4 : M = K
    · skip
      subst p4
      rcases a with _ | ⟨bb, oo, r3⟩
      · clear hc
        have e2 : i - b - 1 ≤ i - b - 1 + m := by omega
        have e3 : i - b - 1 + m ≤ (c : Int) := by omega
        have g5 : (i - b - 1 + m).toNat = M := by omega
        have HCM := Lib.hid (HCN.out rfl)
        clear HCN
        clear hM hMn hm0 hal hKn
        go_enter Try.func38, Try.ntmps38
        go_wp2_with (first
          | (have hgq := HX1; clear hgq; go_at_call 28; ((with_reducible refine (HC.out _ HB1.out).mono ?_); rintro e w2 ⟨rfl, hb⟩; have HX2 := Lib.hid (HX1.out.next (by simp) hb); have HB2 := Lib.hid (HB1.out.trans (hb.mono HB1.out.size)); clear hb k0 k1 k2; have k0 := HX2.out.cell (j := 0) rfl; have k1 := HX2.out.cell (j := 1) rfl; have k2 := HX2.out.cell (j := 2) rfl))
          | (go_at_call 42; ((with_reducible refine (HL.out _ _ HB0.out HX0.out).mono ?_); rintro e w1 ⟨iv, rfl, hiv, nd, rfl⟩; obtain rfl := HIV.out iv hiv; clear hiv; have HX1 := Lib.hid (HX0.out.below (below_drewN (Below.refl _ _) nd) (HX0.out.lt (by simp))); have HB1 := Lib.hid (below_drewN HB0.out nd); have k0 := HX1.out.cell (j := 0) rfl; have k1 := HX1.out.cell (j := 1) rfl; have k2 := HX1.out.cell (j := 2) rfl))
          | (go_at_call 47; ((with_reducible refine (HCM.out _ _).mono ?_); rintro e w3 ⟨a3, c3, fs3, rfl, he3, hr3, hy3, hb3⟩)))
        go_ret2
        exact ⟨a3, c3, fs3, rfl, he3, hr3, hy3, HB2.out.trans (hb3.mono HB2.out.size)⟩
      · skip
        have e2 : i - b - 1 ≤ i - b - 1 + m := by omega
        have e3 : i - b - 1 + m ≤ (c : Int) := by omega
        have g5 : (i - b - 1 + m).toNat = M := by omega
        have HCM := Lib.hid (HCN.out rfl)
        clear HCN
        clear hM hMn hm0 hal hKn
        go_enter Try.func38, Try.ntmps38
        go_wp2_with (first
          | (have hgq := HX1; clear hgq; go_at_call 28; ((with_reducible refine (HC.out _ HB1.out).mono ?_); rintro e w2 ⟨rfl, hb⟩; have HX2 := Lib.hid (HX1.out.next (by simp) hb); have HB2 := Lib.hid (HB1.out.trans (hb.mono HB1.out.size)); clear hb k0 k1 k2; have k0 := HX2.out.cell (j := 0) rfl; have k1 := HX2.out.cell (j := 1) rfl; have k2 := HX2.out.cell (j := 2) rfl))
          | (go_at_call 42; ((with_reducible refine (HL.out _ _ HB0.out HX0.out).mono ?_); rintro e w1 ⟨iv, rfl, hiv, nd, rfl⟩; obtain rfl := HIV.out iv hiv; clear hiv; have HX1 := Lib.hid (HX0.out.below (below_drewN (Below.refl _ _) nd) (HX0.out.lt (by simp))); have HB1 := Lib.hid (below_drewN HB0.out nd); have k0 := HX1.out.cell (j := 0) rfl; have k1 := HX1.out.cell (j := 1) rfl; have k2 := HX1.out.cell (j := 2) rfl))
          | (go_at_call 47; ((with_reducible refine (HCM.out _ _).mono ?_); rintro e w3 ⟨a3, c3, fs3, rfl, he3, hr3, hy3, hb3⟩)))
        go_ret2
        exact ⟨a3, c3, fs3, rfl, he3, hr3, hy3, HB2.out.trans (hb3.mono HB2.out.size)⟩
    · skip
      have hlt : 0 < M - K := by omega
      obtain ⟨bb, oo, rfl⟩ := hal hlt
      have e2 : i - b - 1 ≤ i - b - 1 + m := by omega
      have e3 : i - b - 1 + m ≤ (c : Int) := by omega
      have g5 : (i - b - 1 + m).toNat = M := by omega
      clear hM hMn hm0 hal hKn
      go_enter Try.func38, Try.ntmps38
      go_wp2_with (first
        | (have hgq := HX1; clear hgq; go_at_call 28; ((with_reducible refine (HC.out _ HB1.out).mono ?_); rintro e w2 ⟨rfl, hb⟩; have HX2 := Lib.hid (HX1.out.next (by simp) hb); have HB2 := Lib.hid (HB1.out.trans (hb.mono HB1.out.size)); clear hb k0 k1 k2; have k0 := HX2.out.cell (j := 0) rfl; have k1 := HX2.out.cell (j := 1) rfl; have k2 := HX2.out.cell (j := 2) rfl))
        | (go_at_call 42; ((with_reducible refine (HL.out _ _ HB0.out HX0.out).mono ?_); rintro e w1 ⟨iv, rfl, hiv, nd, rfl⟩; obtain rfl := HIV.out iv hiv; clear hiv; have HX1 := Lib.hid (HX0.out.below (below_drewN (Below.refl _ _) nd) (HX0.out.lt (by simp))); have HB1 := Lib.hid (below_drewN HB0.out nd); have k0 := HX1.out.cell (j := 0) rfl; have k1 := HX1.out.cell (j := 1) rfl; have k2 := HX1.out.cell (j := 2) rfl))
        | (go_at_call 47; ((with_reducible refine (HCU.out hlt _ _ rfl _ HB2.out).mono ?_); rintro e w3 ⟨a3, c3, fs3, rfl, he3, hr3, hy3, hb3⟩)))
      go_ret2
      exact ⟨a3, c3, fs3, rfl, he3, hr3, hy3, HB2.out.trans (hb3.mono HB2.out.size)⟩
end Go.Proofs.Ytmihgdjnjfjjcaa

/- Entries from an index on (weirref09.From). (printed by gen_rwfromr.py) -/
namespace Go.Proofs.Ytmihgdjnjfjjcaa
open Go.ChangeShapes Go.WideShapes Go.ChangeAt Go.RowKit
set_option maxRecDepth 100000

theorem addr_add (b o k : Nat) : (⟨b, o, none⟩ : Addr).add k = ⟨b, o + k, none⟩ := by unfold Addr.add; split <;> simp_all
set_option maxHeartbeats 16000000 in
theorem reffrom_any (es : List RwE) (b t : Int) (a : Option Addr) (n c : Nat) (i most : Int) (w : World) (hn : es.length = n) (hl : n ≤ 1000000) (hc : a = none → c = 0) (hnc : n ≤ c) (hcm : c ≤ 4000000000000000) (hle : ∀ y ∈ es, GoodE w y) (hr : Row w a (es.flatMap cellsRw)) (hi : InI i) :
    Calls Try.prog 39 #[.agg #[.int .i64 b, .int .i64 t, .slice a n c], .int .i64 i, .int .i64 most] w (RetFrom w (fromF b t (ents es) i most)) := by
  have hlen : (ents es).length = n := by rw [← hn]; exact List.length_map _
  have HB0 : Hid (Below w.heap.size w (w.alloc (.cells #[.int .i64 b, .int .i64 t, .slice a n c] 24))) := mid_alloc' (Below.refl _ _)
  have HX0 : Hid (Box (w.alloc (.cells #[.int .i64 b, .int .i64 t, .slice a n c] 24)) w.heap.size [.int .i64 b, .int .i64 t, .slice a n c]) := Box.of_alloc (w := w) (cs := [.int .i64 b, .int .i64 t, .slice a n c]) (t := 24) (Below.refl _ _)
  have HC := Lib.hid (fun w' (hb : Below w.heap.size w w') => refcheck_any es b t a n c w' hn hl (hr.mono_below hb))
  have HL := Lib.hid (fun w' (hb : Below w.heap.size w w') => refLast_any es b t a n c w' hn hl (hr.mono_below hb))
  unfold InI at hi
  rcases hok : okR b t (ents es) with _ | _
  · rw [chk_not hok] at HC
    rw [show fromF b t (ents es) i most = ([], 90) from if_neg (by rw [hok]; exact Bool.false_ne_true)]
    clear hok hlen hr hn hle hc hnc
    go_enter Try.func39, Try.ntmps39
    go_wp2_with ((go_at_call 12; ((with_reducible refine (HC.out _ HB0.out).mono ?_); rintro e w1 ⟨rfl, hb⟩; have HX1 := Lib.hid (HX0.out.next (by simp) hb); have HB1 := Lib.hid (HB0.out.trans (hb.mono HB0.out.size)); clear hb; have k0 := HX1.out.cell (j := 0) rfl; have k1 := HX1.out.cell (j := 1) rfl; have k2 := HX1.out.cell (j := 2) rfl)))
    go_ret2
    exact ⟨none, 0, [], rfl, rfl, .inl rfl, (fun y hy => by cases hy), HB1.out⟩
  have hob := ok_bounds hok
  have hb1 : 0 ≤ b := hob.1
  have hb2 : b + (n : Int) ≤ 1099511627776 := by have := hob.2.2.1; rw [hlen] at this; exact this
  rw [chk_ok hok] at HC
  rw [lastF_ok hok, hlen] at HL
  by_cases h1 : i ≤ b
  · rw [show fromF b t (ents es) i most = ([], 4) by unfold fromF; rw [if_pos hok, if_pos (.inl h1)]]
    have d1 : decide (i ≤ b) = true := decide_eq_true h1
    clear hok hlen hr hn hle hc hnc hob
    go_enter Try.func39, Try.ntmps39
    go_wp2_with (first | (go_at_call 12; ((with_reducible refine (HC.out _ HB0.out).mono ?_); rintro e w1 ⟨rfl, hb⟩; have HX1 := Lib.hid (HX0.out.next (by simp) hb); have HB1 := Lib.hid (HB0.out.trans (hb.mono HB0.out.size)); clear hb; have k0 := HX1.out.cell (j := 0) rfl; have k1 := HX1.out.cell (j := 1) rfl; have k2 := HX1.out.cell (j := 2) rfl)) | (go_at_call 13; ((with_reducible refine (HL.out _ HB1.out).mono ?_); rintro e w2 ⟨rfl, hb⟩; have HX2 := Lib.hid (HX1.out.next (by simp) hb); have HB2 := Lib.hid (HB1.out.trans (hb.mono HB1.out.size)); clear hb k0 k1 k2; have k0 := HX2.out.cell (j := 0) rfl; have k1 := HX2.out.cell (j := 1) rfl; have k2 := HX2.out.cell (j := 2) rfl)))
    go_ret2
    exact ⟨none, 0, [], rfl, rfl, .inl rfl, (fun y hy => by cases hy), HB2.out⟩
  have d1 : decide (i ≤ b) = false := decide_eq_false h1
  by_cases h2 : b + (n : Int) + 1 < i
  · rw [show fromF b t (ents es) i most = ([], 4) by unfold fromF; rw [if_pos hok, if_pos (.inr (by rw [hlen]; exact h2))]]
    have d2 : decide (b + (n : Int) + 1 < i) = true := decide_eq_true h2
    clear hok hlen hr hn hle hc hnc hob
    go_enter Try.func39, Try.ntmps39
    go_wp2_with (first | (go_at_call 12; ((with_reducible refine (HC.out _ HB0.out).mono ?_); rintro e w1 ⟨rfl, hb⟩; have HX1 := Lib.hid (HX0.out.next (by simp) hb); have HB1 := Lib.hid (HB0.out.trans (hb.mono HB0.out.size)); clear hb; have k0 := HX1.out.cell (j := 0) rfl; have k1 := HX1.out.cell (j := 1) rfl; have k2 := HX1.out.cell (j := 2) rfl)) | (go_at_call 13; ((with_reducible refine (HL.out _ HB1.out).mono ?_); rintro e w2 ⟨rfl, hb⟩; have HX2 := Lib.hid (HX1.out.next (by simp) hb); have HB2 := Lib.hid (HB1.out.trans (hb.mono HB1.out.size)); clear hb k0 k1 k2; have k0 := HX2.out.cell (j := 0) rfl; have k1 := HX2.out.cell (j := 1) rfl; have k2 := HX2.out.cell (j := 2) rfl)))
    go_ret2
    exact ⟨none, 0, [], rfl, rfl, .inl rfl, (fun y hy => by cases hy), HB2.out⟩
  have d2 : decide (b + (n : Int) + 1 < i) = false := decide_eq_false h2
  rw [show fromF b t (ents es) i most = (((ents es).drop (i - b - 1).toNat).take (cl 0 16 most).toNat, 0) by unfold fromF; rw [if_pos hok, if_neg (by rw [hlen]; omega)]]
  rw [← ents_cut]
  obtain ⟨K, g4⟩ : ∃ k, (i - b - 1).toNat = k := ⟨_, rfl⟩
  obtain ⟨m, hm⟩ : ∃ m, cl 0 16 most = m := ⟨_, rfl⟩
  rw [g4, hm]
  have hKn : K ≤ n := by omega
  have hcut : ((es.drop K).take m.toNat).length = min m.toNat (n - K) := by rw [List.length_take, List.length_drop, hn]
  have e1 : (0 : Int) ≤ i - b - 1 := by omega
  have e2 : i - b - 1 ≤ (n : Int) := by omega
  have hfs : ∀ y ∈ (es.drop K).take m.toNat, GoodE w y := fun y hy => hle y (List.mem_of_mem_drop (List.mem_of_mem_take hy))
  have HCU : Hid (∀ bb oo r, a = some ⟨bb, oo, r⟩ → ∀ L C w', Below w.heap.size w w' → L = min m.toNat (n - K) → Calls Try.prog 48 #[.slice (some ((⟨bb, oo, r⟩ : Addr).add (K * 5))) L C] w' (RetCp w' ((es.drop K).take m.toNat))) := fun bb oo r ha L C w' hb hL => by
    subst ha
    refine refcopied_any _ _ L C w' (by rw [hcut, hL]) (by omega) (fun y hy => ⟨(hfs y hy).1.below hb, (hfs y hy).2.1⟩) ?_
    rcases hr with h3 | ⟨b1, o1, h3, h4⟩
    · have h5 := congrArg List.length h3; rw [flatMap_len (size := 5) (fun _ => rfl)] at h5; simp at h5
      have : (es.drop K).take m.toNat = [] := by rw [List.eq_nil_of_length_eq_zero (by omega : es.length = 0)]; simp
      rw [this]; exact .inl rfl
    · cases h3
      rw [addr_add]
      exact (from_row (.inr ⟨_, _, rfl, h4⟩) K m.toNat).mono_below hb
  have HE : Hid (K = n → ∀ a' L C w', L = 0 → Calls Try.prog 48 #[.slice a' L C] w' (RetCp w' ((es.drop K).take m.toNat))) := fun h a' L C w' hL => by
    have : (es.drop K).take m.toNat = [] := List.eq_nil_of_length_eq_zero (by omega)
    rw [this]; exact refcopied_any [] a' L C w' (by rw [hL]; rfl) (by omega) (fun y hy => by cases hy) (.inl rfl)
  generalize (es.drop K).take m.toNat = fs at HCU HE hcut hfs ⊢
  clear hok hlen hn hle hr hcut hfs hob h1 h2
  by_cases p1 : most < 0
  · obtain rfl : m = 0 := by rw [← hm]; unfold cl; omega
    clear hm
    rcases a with _ | ⟨bb, oo, r⟩
    · obtain rfl : n = K := by have := hc rfl; omega
      obtain rfl : c = n := by have := hc rfl; omega
      have HEE := Lib.hid (HE.out rfl)
      clear hc HE HCU hKn hnc
      go_enter Try.func39, Try.ntmps39
      go_wp2_with (first | (go_at_call 12; ((with_reducible refine (HC.out _ HB0.out).mono ?_); rintro e w1 ⟨rfl, hb⟩; have HX1 := Lib.hid (HX0.out.next (by simp) hb); have HB1 := Lib.hid (HB0.out.trans (hb.mono HB0.out.size)); clear hb; have k0 := HX1.out.cell (j := 0) rfl; have k1 := HX1.out.cell (j := 1) rfl; have k2 := HX1.out.cell (j := 2) rfl)) | (go_at_call 13; ((with_reducible refine (HL.out _ HB1.out).mono ?_); rintro e w2 ⟨rfl, hb⟩; have HX2 := Lib.hid (HX1.out.next (by simp) hb); have HB2 := Lib.hid (HB1.out.trans (hb.mono HB1.out.size)); clear hb k0 k1 k2; have k0 := HX2.out.cell (j := 0) rfl; have k1 := HX2.out.cell (j := 1) rfl; have k2 := HX2.out.cell (j := 2) rfl)))
      all_goals (first | (have hq : n - n = 0 := (by omega); (with_reducible refine (HEE.out _ (n - n) _ _ hq).mono ?_); rintro e w3 ⟨a3, c3, fs3, rfl, he3, hr3, hy3, hb3⟩) | (have hq : 0 = 0 := (by first | rfl | omega); (with_reducible refine (HEE.out _ 0 _ _ hq).mono ?_); rintro e w3 ⟨a3, c3, fs3, rfl, he3, hr3, hy3, hb3⟩) | (have hq : (0 : Nat) = 0 := rfl; (with_reducible refine (HEE.out _ 0 _ _ hq).mono ?_); rintro e w3 ⟨a3, c3, fs3, rfl, he3, hr3, hy3, hb3⟩))
      all_goals (clear hq; try clear hk)
      all_goals go_wp2
      all_goals go_ret2
      all_goals exact ⟨a3, c3, fs3, rfl, he3, hr3, hy3, HB2.out.trans (hb3.mono HB2.out.size)⟩
    · clear hc
      go_enter Try.func39, Try.ntmps39
      go_wp2_with (first | (go_at_call 12; ((with_reducible refine (HC.out _ HB0.out).mono ?_); rintro e w1 ⟨rfl, hb⟩; have HX1 := Lib.hid (HX0.out.next (by simp) hb); have HB1 := Lib.hid (HB0.out.trans (hb.mono HB0.out.size)); clear hb; have k0 := HX1.out.cell (j := 0) rfl; have k1 := HX1.out.cell (j := 1) rfl; have k2 := HX1.out.cell (j := 2) rfl)) | (go_at_call 13; ((with_reducible refine (HL.out _ HB1.out).mono ?_); rintro e w2 ⟨rfl, hb⟩; have HX2 := Lib.hid (HX1.out.next (by simp) hb); have HB2 := Lib.hid (HB1.out.trans (hb.mono HB1.out.size)); clear hb k0 k1 k2; have k0 := HX2.out.cell (j := 0) rfl; have k1 := HX2.out.cell (j := 1) rfl; have k2 := HX2.out.cell (j := 2) rfl)))
      all_goals (first | (have hq : n - K = min (0 : Int).toNat (n - K) := (by omega); (with_reducible refine (HCU.out bb oo r rfl (n - K) _ _ HB2.out hq).mono ?_); rintro e w3 ⟨a3, c3, fs3, rfl, he3, hr3, hy3, hb3⟩) | (have hq : 0 = min (0 : Int).toNat (n - K) := (by omega); (with_reducible refine (HCU.out bb oo r rfl 0 _ _ HB2.out hq).mono ?_); rintro e w3 ⟨a3, c3, fs3, rfl, he3, hr3, hy3, hb3⟩) | (have hk : K = n := (by omega); have hq : n - K = 0 := (by omega); (with_reducible refine (HE.out hk _ (n - K) _ _ hq).mono ?_); rintro e w3 ⟨a3, c3, fs3, rfl, he3, hr3, hy3, hb3⟩) | (have hk : K = n := (by omega); have hq : 0 = 0 := (by first | rfl | omega); (with_reducible refine (HE.out hk _ 0 _ _ hq).mono ?_); rintro e w3 ⟨a3, c3, fs3, rfl, he3, hr3, hy3, hb3⟩))
      all_goals (clear hq; try clear hk)
      all_goals go_wp2
      all_goals go_ret2
      all_goals exact ⟨a3, c3, fs3, rfl, he3, hr3, hy3, HB2.out.trans (hb3.mono HB2.out.size)⟩
  by_cases p2 : (16 : Int) < most
  · obtain rfl : m = 16 := by rw [← hm]; unfold cl; omega
    clear hm
    rcases a with _ | ⟨bb, oo, r⟩
    · obtain rfl : n = K := by have := hc rfl; omega
      obtain rfl : c = n := by have := hc rfl; omega
      have HEE := Lib.hid (HE.out rfl)
      clear hc HE HCU hKn hnc
      go_enter Try.func39, Try.ntmps39
      go_wp2_with (first | (go_at_call 12; ((with_reducible refine (HC.out _ HB0.out).mono ?_); rintro e w1 ⟨rfl, hb⟩; have HX1 := Lib.hid (HX0.out.next (by simp) hb); have HB1 := Lib.hid (HB0.out.trans (hb.mono HB0.out.size)); clear hb; have k0 := HX1.out.cell (j := 0) rfl; have k1 := HX1.out.cell (j := 1) rfl; have k2 := HX1.out.cell (j := 2) rfl)) | (go_at_call 13; ((with_reducible refine (HL.out _ HB1.out).mono ?_); rintro e w2 ⟨rfl, hb⟩; have HX2 := Lib.hid (HX1.out.next (by simp) hb); have HB2 := Lib.hid (HB1.out.trans (hb.mono HB1.out.size)); clear hb k0 k1 k2; have k0 := HX2.out.cell (j := 0) rfl; have k1 := HX2.out.cell (j := 1) rfl; have k2 := HX2.out.cell (j := 2) rfl)))
      all_goals (first | (have hq : n - n = 0 := (by omega); (with_reducible refine (HEE.out _ (n - n) _ _ hq).mono ?_); rintro e w3 ⟨a3, c3, fs3, rfl, he3, hr3, hy3, hb3⟩) | (have hq : 16 = 0 := (by first | rfl | omega); (with_reducible refine (HEE.out _ 16 _ _ hq).mono ?_); rintro e w3 ⟨a3, c3, fs3, rfl, he3, hr3, hy3, hb3⟩) | (have hq : (0 : Nat) = 0 := rfl; (with_reducible refine (HEE.out _ 0 _ _ hq).mono ?_); rintro e w3 ⟨a3, c3, fs3, rfl, he3, hr3, hy3, hb3⟩))
      all_goals (clear hq; try clear hk)
      all_goals go_wp2
      all_goals go_ret2
      all_goals exact ⟨a3, c3, fs3, rfl, he3, hr3, hy3, HB2.out.trans (hb3.mono HB2.out.size)⟩
    · clear hc
      go_enter Try.func39, Try.ntmps39
      go_wp2_with (first | (go_at_call 12; ((with_reducible refine (HC.out _ HB0.out).mono ?_); rintro e w1 ⟨rfl, hb⟩; have HX1 := Lib.hid (HX0.out.next (by simp) hb); have HB1 := Lib.hid (HB0.out.trans (hb.mono HB0.out.size)); clear hb; have k0 := HX1.out.cell (j := 0) rfl; have k1 := HX1.out.cell (j := 1) rfl; have k2 := HX1.out.cell (j := 2) rfl)) | (go_at_call 13; ((with_reducible refine (HL.out _ HB1.out).mono ?_); rintro e w2 ⟨rfl, hb⟩; have HX2 := Lib.hid (HX1.out.next (by simp) hb); have HB2 := Lib.hid (HB1.out.trans (hb.mono HB1.out.size)); clear hb k0 k1 k2; have k0 := HX2.out.cell (j := 0) rfl; have k1 := HX2.out.cell (j := 1) rfl; have k2 := HX2.out.cell (j := 2) rfl)))
      all_goals (first | (have hq : n - K = min (16 : Int).toNat (n - K) := (by omega); (with_reducible refine (HCU.out bb oo r rfl (n - K) _ _ HB2.out hq).mono ?_); rintro e w3 ⟨a3, c3, fs3, rfl, he3, hr3, hy3, hb3⟩) | (have hq : 16 = min (16 : Int).toNat (n - K) := (by omega); (with_reducible refine (HCU.out bb oo r rfl 16 _ _ HB2.out hq).mono ?_); rintro e w3 ⟨a3, c3, fs3, rfl, he3, hr3, hy3, hb3⟩) | (have hk : K = n := (by omega); have hq : n - K = 0 := (by omega); (with_reducible refine (HE.out hk _ (n - K) _ _ hq).mono ?_); rintro e w3 ⟨a3, c3, fs3, rfl, he3, hr3, hy3, hb3⟩) | (have hk : K = n := (by omega); have hq : 16 = 0 := (by first | rfl | omega); (with_reducible refine (HE.out hk _ 16 _ _ hq).mono ?_); rintro e w3 ⟨a3, c3, fs3, rfl, he3, hr3, hy3, hb3⟩))
      all_goals (clear hq; try clear hk)
      all_goals go_wp2
      all_goals go_ret2
      all_goals exact ⟨a3, c3, fs3, rfl, he3, hr3, hy3, HB2.out.trans (hb3.mono HB2.out.size)⟩
  have hmm : m = most := by rw [← hm]; unfold cl; omega
  clear hm
  subst hmm
  rcases a with _ | ⟨bb, oo, r⟩
  · obtain rfl : n = K := by have := hc rfl; omega
    obtain rfl : c = n := by have := hc rfl; omega
    have HEE := Lib.hid (HE.out rfl)
    clear hc HE HCU hKn hnc
    go_enter Try.func39, Try.ntmps39
    go_wp2_with (first | (go_at_call 12; ((with_reducible refine (HC.out _ HB0.out).mono ?_); rintro e w1 ⟨rfl, hb⟩; have HX1 := Lib.hid (HX0.out.next (by simp) hb); have HB1 := Lib.hid (HB0.out.trans (hb.mono HB0.out.size)); clear hb; have k0 := HX1.out.cell (j := 0) rfl; have k1 := HX1.out.cell (j := 1) rfl; have k2 := HX1.out.cell (j := 2) rfl)) | (go_at_call 13; ((with_reducible refine (HL.out _ HB1.out).mono ?_); rintro e w2 ⟨rfl, hb⟩; have HX2 := Lib.hid (HX1.out.next (by simp) hb); have HB2 := Lib.hid (HB1.out.trans (hb.mono HB1.out.size)); clear hb k0 k1 k2; have k0 := HX2.out.cell (j := 0) rfl; have k1 := HX2.out.cell (j := 1) rfl; have k2 := HX2.out.cell (j := 2) rfl)))
    all_goals (first | (have hq : n - n = 0 := (by omega); (with_reducible refine (HEE.out _ (n - n) _ _ hq).mono ?_); rintro e w3 ⟨a3, c3, fs3, rfl, he3, hr3, hy3, hb3⟩) | (have hq : m.toNat = 0 := (by first | rfl | omega); (with_reducible refine (HEE.out _ m.toNat _ _ hq).mono ?_); rintro e w3 ⟨a3, c3, fs3, rfl, he3, hr3, hy3, hb3⟩) | (have hq : (0 : Nat) = 0 := rfl; (with_reducible refine (HEE.out _ 0 _ _ hq).mono ?_); rintro e w3 ⟨a3, c3, fs3, rfl, he3, hr3, hy3, hb3⟩))
    all_goals (clear hq; try clear hk)
    all_goals go_wp2
    all_goals go_ret2
    all_goals exact ⟨a3, c3, fs3, rfl, he3, hr3, hy3, HB2.out.trans (hb3.mono HB2.out.size)⟩
  · clear hc
    go_enter Try.func39, Try.ntmps39
    go_wp2_with (first | (go_at_call 12; ((with_reducible refine (HC.out _ HB0.out).mono ?_); rintro e w1 ⟨rfl, hb⟩; have HX1 := Lib.hid (HX0.out.next (by simp) hb); have HB1 := Lib.hid (HB0.out.trans (hb.mono HB0.out.size)); clear hb; have k0 := HX1.out.cell (j := 0) rfl; have k1 := HX1.out.cell (j := 1) rfl; have k2 := HX1.out.cell (j := 2) rfl)) | (go_at_call 13; ((with_reducible refine (HL.out _ HB1.out).mono ?_); rintro e w2 ⟨rfl, hb⟩; have HX2 := Lib.hid (HX1.out.next (by simp) hb); have HB2 := Lib.hid (HB1.out.trans (hb.mono HB1.out.size)); clear hb k0 k1 k2; have k0 := HX2.out.cell (j := 0) rfl; have k1 := HX2.out.cell (j := 1) rfl; have k2 := HX2.out.cell (j := 2) rfl)))
    all_goals (first | (have hq : n - K = min m.toNat (n - K) := (by omega); (with_reducible refine (HCU.out bb oo r rfl (n - K) _ _ HB2.out hq).mono ?_); rintro e w3 ⟨a3, c3, fs3, rfl, he3, hr3, hy3, hb3⟩) | (have hq : m.toNat = min m.toNat (n - K) := (by omega); (with_reducible refine (HCU.out bb oo r rfl m.toNat _ _ HB2.out hq).mono ?_); rintro e w3 ⟨a3, c3, fs3, rfl, he3, hr3, hy3, hb3⟩) | (have hk : K = n := (by omega); have hq : n - K = 0 := (by omega); (with_reducible refine (HE.out hk _ (n - K) _ _ hq).mono ?_); rintro e w3 ⟨a3, c3, fs3, rfl, he3, hr3, hy3, hb3⟩) | (have hk : K = n := (by omega); have hq : m.toNat = 0 := (by first | rfl | omega); (with_reducible refine (HE.out hk _ m.toNat _ _ hq).mono ?_); rintro e w3 ⟨a3, c3, fs3, rfl, he3, hr3, hy3, hb3⟩))
    all_goals (clear hq; try clear hk)
    all_goals go_wp2
    all_goals go_ret2
    all_goals exact ⟨a3, c3, fs3, rfl, he3, hr3, hy3, HB2.out.trans (hb3.mono HB2.out.size)⟩
end Go.Proofs.Ytmihgdjnjfjjcaa

/- What a node is sent, both sides. (printed by gen_folask.py) -/
namespace Go.Proofs.Ytmihgdjnjfjjcaa
open Go.ChangeShapes Go.WideShapes Go.ChangeAt Go.RowKit
set_option maxRecDepth 100000

theorem results_tmp5 {fn : Func} {t u v x y : Tmp} (h : fn.results = #[.tmp t, .tmp u, .tmp v, .tmp x, .tmp y]) (tmps : Array Value) (P : Program) (w : World) :
    (results fn tmps).run P w = .ok (.tuple #[tmps.getD t undef, tmps.getD u undef, tmps.getD v undef, tmps.getD x undef, tmps.getD y undef]) w := by simp [results, h]
def askF (b t : Int) (es : List WEnt) (nx most : Int) : Int × Int × Bool × Int × List WEnt :=
  if okR b t es = true then (if nx < 1 ∨ b + es.length + 1 < nx then (0, 0, false, 2, []) else if nx - 1 < b then (0, 0, true, 0, []) else (nx - 1, (termF b t es (nx - 1)).1, false, 0, (fromF b t es nx most).1)) else (0, 0, false, 90, [])
def RetAsk (w : World) (r : Int × Int × Bool × Int × List WEnt) (e : Ending) (w' : World) : Prop := ∃ (a : Option Addr) (c : Nat) (fs : List RwE), e = .returned (.tuple #[.int .i64 r.1, .int .i64 r.2.1, .slice a fs.length c, .bool r.2.2.1, .int .i64 r.2.2.2.1]) ∧ ents fs = r.2.2.2.2 ∧ Row w' a (fs.flatMap cellsRw) ∧ (∀ y ∈ fs, RowB w' y.2.1 y.1.data) ∧ Below w.heap.size w w'
theorem ask_not {b t : Int} {es : List WEnt} {nx most : Int} (h : okR b t es = false) : askF b t es nx most = (0, 0, false, 90, []) := if_neg (by rw [h]; exact Bool.false_ne_true)
theorem ask_arg {b t : Int} {es : List WEnt} {nx most : Int} (h : okR b t es = true) (h1 : nx < 1 ∨ b + es.length + 1 < nx) : askF b t es nx most = (0, 0, false, 2, []) := by unfold askF; rw [if_pos h, if_pos h1]
theorem ask_snap {b t : Int} {es : List WEnt} {nx most : Int} (h : okR b t es = true) (h1 : ¬ (nx < 1 ∨ b + es.length + 1 < nx)) (h2 : nx - 1 < b) : askF b t es nx most = (0, 0, true, 0, []) := by unfold askF; rw [if_pos h, if_neg h1, if_pos h2]
theorem ask_in {b t : Int} {es : List WEnt} {nx most : Int} (h : okR b t es = true) (h1 : ¬ (nx < 1 ∨ b + es.length + 1 < nx)) (h2 : ¬ nx - 1 < b) : askF b t es nx most = (nx - 1, (termF b t es (nx - 1)).1, false, 0, (fromF b t es nx most).1) := by unfold askF; rw [if_pos h, if_neg h1, if_neg h2]
theorem from_in {b t : Int} {es : List WEnt} {nx most : Int} (h : okR b t es = true) (h1 : ¬ (nx < 1 ∨ b + es.length + 1 < nx)) (h2 : ¬ nx - 1 < b) : ∃ l, fromF b t es nx most = (l, 0) := by unfold fromF; rw [if_pos h, if_neg (by omega)]; exact ⟨_, rfl⟩
set_option maxHeartbeats 16000000 in
theorem ask_any (es : List RwE) (b t : Int) (a : Option Addr) (n c : Nat) (p0 p1 p2 most : Int) (w : World) (hn : es.length = n) (hl : n ≤ 1000000) (hc : a = none → c = 0) (hnc : n ≤ c) (hcm : c ≤ 4000000000000000) (hle : ∀ y ∈ es, GoodE w y) (hr : Row w a (es.flatMap cellsRw)) (hi : InI p2) :
    Calls Try.prog 24 #[.agg #[.int .i64 b, .int .i64 t, .slice a n c], .agg #[.int .i64 p0, .int .i64 p1, .int .i64 p2], .int .i64 most] w (RetAsk w (askF b t (ents es) p2 most)) := by
  have hlen : (ents es).length = n := by rw [← hn]; exact List.length_map _
  have HB0 : Hid (Below w.heap.size w ((w.alloc (.cells #[.int .i64 b, .int .i64 t, .slice a n c] 24)).alloc (.cells #[.int .i64 p0, .int .i64 p1, .int .i64 p2] 39))) := mid_alloc' (mid_alloc' (Below.refl _ _))
  have HR0 : Hid (Box ((w.alloc (.cells #[.int .i64 b, .int .i64 t, .slice a n c] 24)).alloc (.cells #[.int .i64 p0, .int .i64 p1, .int .i64 p2] 39)) w.heap.size [.int .i64 b, .int .i64 t, .slice a n c]) := Box.of_alloc (w := w) (cs := [.int .i64 b, .int .i64 t, .slice a n c]) (t := 24) (mid_alloc' (Below.refl _ _))
  have HP0 : Hid (Box ((w.alloc (.cells #[.int .i64 b, .int .i64 t, .slice a n c] 24)).alloc (.cells #[.int .i64 p0, .int .i64 p1, .int .i64 p2] 39)) (w.heap.size + 1) [.int .i64 p0, .int .i64 p1, .int .i64 p2]) := Box.of_alloc1 (w := w) (cs := [.int .i64 p0, .int .i64 p1, .int .i64 p2]) (t := 39) (Below.refl _ _)
  have HC := Lib.hid (fun w' (hb : Below w.heap.size w w') => check_any es b t a n c w' hn hl (hr.mono_below hb))
  have HL := Lib.hid (fun w' (hb : Below w.heap.size w w') => lastV_any es b t a n c w' hn hl (hr.mono_below hb))
  rcases hok : okR b t (ents es) with _ | _
  · rw [chk_not hok] at HC
    rw [lastF_not hok] at HL
    rw [ask_not hok]
    clear hok hlen hr hn hle hc hnc hcm
    go_enter Try.func24, Try.ntmps24
    go_wp2_with (first
      | (have hgq := HB1; clear hgq; go_at_call 28; ((with_reducible refine (HC.out _ HB1.out).mono ?_); rintro e w2 ⟨rfl, hb⟩; have HR2 := Lib.hid (HR1.out.next (by simp) hb); have HP2 := Lib.hid (HP1.out.next (by simp) hb); have HB2 := Lib.hid (HB1.out.trans (hb.mono HB1.out.size)); clear hb k0 k1 k2 q0 q1 q2; have k0 := HR2.out.cell (j := 0) rfl; have k1 := HR2.out.cell (j := 1) rfl; have k2 := HR2.out.cell (j := 2) rfl; have q0 := HP2.out.cell (j := 0) rfl; have q1 := HP2.out.cell (j := 1) rfl; have q2 := HP2.out.cell (j := 2) rfl))
      | (have hgq := HB0; clear hgq; go_at_call 29; ((with_reducible refine (HL.out _ HB0.out).mono ?_); rintro e w1 ⟨rfl, hb⟩; have HR1 := Lib.hid (HR0.out.next (by simp) hb); have HP1 := Lib.hid (HP0.out.next (by simp) hb); have HB1 := Lib.hid (HB0.out.trans (hb.mono HB0.out.size)); clear hb; have k0 := HR1.out.cell (j := 0) rfl; have k1 := HR1.out.cell (j := 1) rfl; have k2 := HR1.out.cell (j := 2) rfl; have q0 := HP1.out.cell (j := 0) rfl; have q1 := HP1.out.cell (j := 1) rfl; have q2 := HP1.out.cell (j := 2) rfl)))
    (try simp only [Exit.inBlock, Exit.then]); refine bodyPost_ret (results_tmp5 rfl _ _ _) rfl ?_
    exact ⟨none, 0, [], rfl, rfl, .inl rfl, (fun y hy => by cases hy), HB2.out⟩
  have hob := ok_bounds hok
  have hb1 : 0 ≤ b := hob.1
  have hb2 : b + (n : Int) ≤ 1099511627776 := by have := hob.2.2.1; rw [hlen] at this; exact this
  rw [chk_ok hok] at HC
  rw [lastF_ok hok, hlen] at HL
  by_cases h1 : p2 < 1
  · rw [ask_arg hok (.inl h1)]
    have d1 : decide (p2 < 1) = true := decide_eq_true h1
    clear hok hlen hr hn hle hc hnc hob hcm
    go_enter Try.func24, Try.ntmps24
    go_wp2_with (first
      | (have hgq := HB1; clear hgq; go_at_call 28; ((with_reducible refine (HC.out _ HB1.out).mono ?_); rintro e w2 ⟨rfl, hb⟩; have HR2 := Lib.hid (HR1.out.next (by simp) hb); have HP2 := Lib.hid (HP1.out.next (by simp) hb); have HB2 := Lib.hid (HB1.out.trans (hb.mono HB1.out.size)); clear hb k0 k1 k2 q0 q1 q2; have k0 := HR2.out.cell (j := 0) rfl; have k1 := HR2.out.cell (j := 1) rfl; have k2 := HR2.out.cell (j := 2) rfl; have q0 := HP2.out.cell (j := 0) rfl; have q1 := HP2.out.cell (j := 1) rfl; have q2 := HP2.out.cell (j := 2) rfl))
      | (have hgq := HB0; clear hgq; go_at_call 29; ((with_reducible refine (HL.out _ HB0.out).mono ?_); rintro e w1 ⟨rfl, hb⟩; have HR1 := Lib.hid (HR0.out.next (by simp) hb); have HP1 := Lib.hid (HP0.out.next (by simp) hb); have HB1 := Lib.hid (HB0.out.trans (hb.mono HB0.out.size)); clear hb; have k0 := HR1.out.cell (j := 0) rfl; have k1 := HR1.out.cell (j := 1) rfl; have k2 := HR1.out.cell (j := 2) rfl; have q0 := HP1.out.cell (j := 0) rfl; have q1 := HP1.out.cell (j := 1) rfl; have q2 := HP1.out.cell (j := 2) rfl)))
    (try simp only [Exit.inBlock, Exit.then]); refine bodyPost_ret (results_tmp5 rfl _ _ _) rfl ?_
    exact ⟨none, 0, [], rfl, rfl, .inl rfl, (fun y hy => by cases hy), HB2.out⟩
  have d1 : decide (p2 < 1) = false := decide_eq_false h1
  by_cases h2 : b + (n : Int) + 1 < p2
  · rw [ask_arg hok (.inr (by rw [hlen]; exact h2))]
    have d2 : decide (b + (n : Int) + 1 < p2) = true := decide_eq_true h2
    clear hok hlen hr hn hle hc hnc hob hcm
    go_enter Try.func24, Try.ntmps24
    go_wp2_with (first
      | (have hgq := HB1; clear hgq; go_at_call 28; ((with_reducible refine (HC.out _ HB1.out).mono ?_); rintro e w2 ⟨rfl, hb⟩; have HR2 := Lib.hid (HR1.out.next (by simp) hb); have HP2 := Lib.hid (HP1.out.next (by simp) hb); have HB2 := Lib.hid (HB1.out.trans (hb.mono HB1.out.size)); clear hb k0 k1 k2 q0 q1 q2; have k0 := HR2.out.cell (j := 0) rfl; have k1 := HR2.out.cell (j := 1) rfl; have k2 := HR2.out.cell (j := 2) rfl; have q0 := HP2.out.cell (j := 0) rfl; have q1 := HP2.out.cell (j := 1) rfl; have q2 := HP2.out.cell (j := 2) rfl))
      | (have hgq := HB0; clear hgq; go_at_call 29; ((with_reducible refine (HL.out _ HB0.out).mono ?_); rintro e w1 ⟨rfl, hb⟩; have HR1 := Lib.hid (HR0.out.next (by simp) hb); have HP1 := Lib.hid (HP0.out.next (by simp) hb); have HB1 := Lib.hid (HB0.out.trans (hb.mono HB0.out.size)); clear hb; have k0 := HR1.out.cell (j := 0) rfl; have k1 := HR1.out.cell (j := 1) rfl; have k2 := HR1.out.cell (j := 2) rfl; have q0 := HP1.out.cell (j := 0) rfl; have q1 := HP1.out.cell (j := 1) rfl; have q2 := HP1.out.cell (j := 2) rfl)))
    (try simp only [Exit.inBlock, Exit.then]); refine bodyPost_ret (results_tmp5 rfl _ _ _) rfl ?_
    exact ⟨none, 0, [], rfl, rfl, .inl rfl, (fun y hy => by cases hy), HB2.out⟩
  have d2 : decide (b + (n : Int) + 1 < p2) = false := decide_eq_false h2
  have h12 : ¬ (p2 < 1 ∨ b + ((ents es).length : Int) + 1 < p2) := by rw [hlen]; omega
  have e1 : IntKind.i64.wrap (p2 - 1) = p2 - 1 := IntWalk.i64_in _ (by omega)
  by_cases h3 : p2 - 1 < b
  · rw [ask_snap hok h12 h3]
    have d3 : decide (p2 - 1 < b) = true := decide_eq_true h3
    clear hok hlen hr hn hle hc hnc hob hcm h12
    go_enter Try.func24, Try.ntmps24
    go_wp2_with (first
      | (have hgq := HB1; clear hgq; go_at_call 28; ((with_reducible refine (HC.out _ HB1.out).mono ?_); rintro e w2 ⟨rfl, hb⟩; have HR2 := Lib.hid (HR1.out.next (by simp) hb); have HP2 := Lib.hid (HP1.out.next (by simp) hb); have HB2 := Lib.hid (HB1.out.trans (hb.mono HB1.out.size)); clear hb k0 k1 k2 q0 q1 q2; have k0 := HR2.out.cell (j := 0) rfl; have k1 := HR2.out.cell (j := 1) rfl; have k2 := HR2.out.cell (j := 2) rfl; have q0 := HP2.out.cell (j := 0) rfl; have q1 := HP2.out.cell (j := 1) rfl; have q2 := HP2.out.cell (j := 2) rfl))
      | (have hgq := HB0; clear hgq; go_at_call 29; ((with_reducible refine (HL.out _ HB0.out).mono ?_); rintro e w1 ⟨rfl, hb⟩; have HR1 := Lib.hid (HR0.out.next (by simp) hb); have HP1 := Lib.hid (HP0.out.next (by simp) hb); have HB1 := Lib.hid (HB0.out.trans (hb.mono HB0.out.size)); clear hb; have k0 := HR1.out.cell (j := 0) rfl; have k1 := HR1.out.cell (j := 1) rfl; have k2 := HR1.out.cell (j := 2) rfl; have q0 := HP1.out.cell (j := 0) rfl; have q1 := HP1.out.cell (j := 1) rfl; have q2 := HP1.out.cell (j := 2) rfl)))
    (try simp only [Exit.inBlock, Exit.then]); refine bodyPost_ret (results_tmp5 rfl _ _ _) rfl ?_
    exact ⟨none, 0, [], rfl, rfl, .inl rfl, (fun y hy => by cases hy), HB2.out⟩
  have d3 : decide (p2 - 1 < b) = false := decide_eq_false h3
  rw [ask_in hok h12 h3]
  have hi1 : InI (p2 - 1) := by unfold InI at hi ⊢; omega
  have HT := Lib.hid (fun w' (hb : Below w.heap.size w w') => term_any es b t a n c w' hn hl (hr.mono_below hb) (p2 - 1) hi1)
  have HF := Lib.hid (fun w' (hb : Below w.heap.size w w') => from_any es b t a n c p2 most w' hn hl hc hnc hcm (fun y hy => ⟨(hle y hy).1.below hb, (hle y hy).2⟩) (hr.mono_below hb) hi)
  obtain ⟨lf, hf⟩ := from_in (most := most) hok h12 h3
  rw [hf] at HF
  rw [hf]
  generalize termF b t (ents es) (p2 - 1) = tf at HT
  obtain ⟨tv, tb⟩ := tf
  clear hok hlen hr hn hle hc hnc hob hcm h12 hi1 hf
  go_enter Try.func24, Try.ntmps24
  go_wp2_with (first
    | (have hgq := HB3; clear hgq; go_at_call 38; ((with_reducible refine (HF.out _ HB3.out).mono ?_); rintro e w4 ⟨a3, c3, fs3, rfl, he3, hr3, hy3, hb3⟩; clear k0 k1 k2 q0 q1 q2; have HB4 := Lib.hid (HB3.out.trans (hb3.mono HB3.out.size)); have HP4 := Lib.hid (HP3.out.next (by simp) hb3); have q0 := HP4.out.cell (j := 0) rfl; have q1 := HP4.out.cell (j := 1) rfl; have q2 := HP4.out.cell (j := 2) rfl))
    | (have hgq := HB2; clear hgq; go_at_call 32; ((with_reducible refine (HT.out _ HB2.out).mono ?_); rintro e w3 ⟨rfl, hb⟩; have HR3 := Lib.hid (HR2.out.next (by simp) hb); have HP3 := Lib.hid (HP2.out.next (by simp) hb); have HB3 := Lib.hid (HB2.out.trans (hb.mono HB2.out.size)); clear hb k0 k1 k2 q0 q1 q2; have k0 := HR3.out.cell (j := 0) rfl; have k1 := HR3.out.cell (j := 1) rfl; have k2 := HR3.out.cell (j := 2) rfl; have q0 := HP3.out.cell (j := 0) rfl; have q1 := HP3.out.cell (j := 1) rfl; have q2 := HP3.out.cell (j := 2) rfl))
    | (have hgq := HB1; clear hgq; go_at_call 28; ((with_reducible refine (HC.out _ HB1.out).mono ?_); rintro e w2 ⟨rfl, hb⟩; have HR2 := Lib.hid (HR1.out.next (by simp) hb); have HP2 := Lib.hid (HP1.out.next (by simp) hb); have HB2 := Lib.hid (HB1.out.trans (hb.mono HB1.out.size)); clear hb k0 k1 k2 q0 q1 q2; have k0 := HR2.out.cell (j := 0) rfl; have k1 := HR2.out.cell (j := 1) rfl; have k2 := HR2.out.cell (j := 2) rfl; have q0 := HP2.out.cell (j := 0) rfl; have q1 := HP2.out.cell (j := 1) rfl; have q2 := HP2.out.cell (j := 2) rfl))
    | (have hgq := HB0; clear hgq; go_at_call 29; ((with_reducible refine (HL.out _ HB0.out).mono ?_); rintro e w1 ⟨rfl, hb⟩; have HR1 := Lib.hid (HR0.out.next (by simp) hb); have HP1 := Lib.hid (HP0.out.next (by simp) hb); have HB1 := Lib.hid (HB0.out.trans (hb.mono HB0.out.size)); clear hb; have k0 := HR1.out.cell (j := 0) rfl; have k1 := HR1.out.cell (j := 1) rfl; have k2 := HR1.out.cell (j := 2) rfl; have q0 := HP1.out.cell (j := 0) rfl; have q1 := HP1.out.cell (j := 1) rfl; have q2 := HP1.out.cell (j := 2) rfl)))
  (try simp only [Exit.inBlock, Exit.then]); refine bodyPost_ret (results_tmp5 rfl _ _ _) rfl ?_
  exact ⟨a3, c3, fs3, rfl, he3, hr3, hy3, HB3.out.trans (hb3.mono HB3.out.size)⟩
set_option maxHeartbeats 16000000 in
theorem refask_any (es : List RwE) (b t : Int) (a : Option Addr) (n c : Nat) (p0 p1 p2 most : Int) (w : World) (hn : es.length = n) (hl : n ≤ 1000000) (hc : a = none → c = 0) (hnc : n ≤ c) (hcm : c ≤ 4000000000000000) (hle : ∀ y ∈ es, GoodE w y) (hr : Row w a (es.flatMap cellsRw)) (hi : InI p2) :
    Calls Try.prog 25 #[.agg #[.int .i64 b, .int .i64 t, .slice a n c], .agg #[.int .i64 p0, .int .i64 p1, .int .i64 p2], .int .i64 most] w (RetAsk w (askF b t (ents es) p2 most)) := by
  have hlen : (ents es).length = n := by rw [← hn]; exact List.length_map _
  have HB0 : Hid (Below w.heap.size w ((w.alloc (.cells #[.int .i64 b, .int .i64 t, .slice a n c] 24)).alloc (.cells #[.int .i64 p0, .int .i64 p1, .int .i64 p2] 39))) := mid_alloc' (mid_alloc' (Below.refl _ _))
  have HR0 : Hid (Box ((w.alloc (.cells #[.int .i64 b, .int .i64 t, .slice a n c] 24)).alloc (.cells #[.int .i64 p0, .int .i64 p1, .int .i64 p2] 39)) w.heap.size [.int .i64 b, .int .i64 t, .slice a n c]) := Box.of_alloc (w := w) (cs := [.int .i64 b, .int .i64 t, .slice a n c]) (t := 24) (mid_alloc' (Below.refl _ _))
  have HP0 : Hid (Box ((w.alloc (.cells #[.int .i64 b, .int .i64 t, .slice a n c] 24)).alloc (.cells #[.int .i64 p0, .int .i64 p1, .int .i64 p2] 39)) (w.heap.size + 1) [.int .i64 p0, .int .i64 p1, .int .i64 p2]) := Box.of_alloc1 (w := w) (cs := [.int .i64 p0, .int .i64 p1, .int .i64 p2]) (t := 39) (Below.refl _ _)
  have HC := Lib.hid (fun w' (hb : Below w.heap.size w w') => refcheck_any es b t a n c w' hn hl (hr.mono_below hb))
  have HL := Lib.hid (fun w' (hb : Below w.heap.size w w') => refLast_any es b t a n c w' hn hl (hr.mono_below hb))
  rcases hok : okR b t (ents es) with _ | _
  · rw [chk_not hok] at HC
    rw [lastF_not hok] at HL
    rw [ask_not hok]
    clear hok hlen hr hn hle hc hnc hcm
    go_enter Try.func25, Try.ntmps25
    go_wp2_with (first
      | (have hgq := HB0; clear hgq; go_at_call 12; ((with_reducible refine (HC.out _ HB0.out).mono ?_); rintro e w1 ⟨rfl, hb⟩; have HR1 := Lib.hid (HR0.out.next (by simp) hb); have HP1 := Lib.hid (HP0.out.next (by simp) hb); have HB1 := Lib.hid (HB0.out.trans (hb.mono HB0.out.size)); clear hb; have k0 := HR1.out.cell (j := 0) rfl; have k1 := HR1.out.cell (j := 1) rfl; have k2 := HR1.out.cell (j := 2) rfl; have q0 := HP1.out.cell (j := 0) rfl; have q1 := HP1.out.cell (j := 1) rfl; have q2 := HP1.out.cell (j := 2) rfl))
      | (have hgq := HB1; clear hgq; go_at_call 13; ((with_reducible refine (HL.out _ HB1.out).mono ?_); rintro e w2 ⟨rfl, hb⟩; have HR2 := Lib.hid (HR1.out.next (by simp) hb); have HP2 := Lib.hid (HP1.out.next (by simp) hb); have HB2 := Lib.hid (HB1.out.trans (hb.mono HB1.out.size)); clear hb k0 k1 k2 q0 q1 q2; have k0 := HR2.out.cell (j := 0) rfl; have k1 := HR2.out.cell (j := 1) rfl; have k2 := HR2.out.cell (j := 2) rfl; have q0 := HP2.out.cell (j := 0) rfl; have q1 := HP2.out.cell (j := 1) rfl; have q2 := HP2.out.cell (j := 2) rfl)))
    (try simp only [Exit.inBlock, Exit.then]); refine bodyPost_ret (results_tmp5 rfl _ _ _) rfl ?_
    exact ⟨none, 0, [], rfl, rfl, .inl rfl, (fun y hy => by cases hy), HB1.out⟩
  have hob := ok_bounds hok
  have hb1 : 0 ≤ b := hob.1
  have hb2 : b + (n : Int) ≤ 1099511627776 := by have := hob.2.2.1; rw [hlen] at this; exact this
  rw [chk_ok hok] at HC
  rw [lastF_ok hok, hlen] at HL
  by_cases h1 : p2 < 1
  · rw [ask_arg hok (.inl h1)]
    have d1 : decide (p2 < 1) = true := decide_eq_true h1
    clear hok hlen hr hn hle hc hnc hob hcm
    go_enter Try.func25, Try.ntmps25
    go_wp2_with (first
      | (have hgq := HB0; clear hgq; go_at_call 12; ((with_reducible refine (HC.out _ HB0.out).mono ?_); rintro e w1 ⟨rfl, hb⟩; have HR1 := Lib.hid (HR0.out.next (by simp) hb); have HP1 := Lib.hid (HP0.out.next (by simp) hb); have HB1 := Lib.hid (HB0.out.trans (hb.mono HB0.out.size)); clear hb; have k0 := HR1.out.cell (j := 0) rfl; have k1 := HR1.out.cell (j := 1) rfl; have k2 := HR1.out.cell (j := 2) rfl; have q0 := HP1.out.cell (j := 0) rfl; have q1 := HP1.out.cell (j := 1) rfl; have q2 := HP1.out.cell (j := 2) rfl))
      | (have hgq := HB1; clear hgq; go_at_call 13; ((with_reducible refine (HL.out _ HB1.out).mono ?_); rintro e w2 ⟨rfl, hb⟩; have HR2 := Lib.hid (HR1.out.next (by simp) hb); have HP2 := Lib.hid (HP1.out.next (by simp) hb); have HB2 := Lib.hid (HB1.out.trans (hb.mono HB1.out.size)); clear hb k0 k1 k2 q0 q1 q2; have k0 := HR2.out.cell (j := 0) rfl; have k1 := HR2.out.cell (j := 1) rfl; have k2 := HR2.out.cell (j := 2) rfl; have q0 := HP2.out.cell (j := 0) rfl; have q1 := HP2.out.cell (j := 1) rfl; have q2 := HP2.out.cell (j := 2) rfl)))
    (try simp only [Exit.inBlock, Exit.then]); refine bodyPost_ret (results_tmp5 rfl _ _ _) rfl ?_
    exact ⟨none, 0, [], rfl, rfl, .inl rfl, (fun y hy => by cases hy), HB2.out⟩
  have d1 : decide (p2 < 1) = false := decide_eq_false h1
  by_cases h2 : b + (n : Int) + 1 < p2
  · rw [ask_arg hok (.inr (by rw [hlen]; exact h2))]
    have d2 : decide (b + (n : Int) + 1 < p2) = true := decide_eq_true h2
    clear hok hlen hr hn hle hc hnc hob hcm
    go_enter Try.func25, Try.ntmps25
    go_wp2_with (first
      | (have hgq := HB0; clear hgq; go_at_call 12; ((with_reducible refine (HC.out _ HB0.out).mono ?_); rintro e w1 ⟨rfl, hb⟩; have HR1 := Lib.hid (HR0.out.next (by simp) hb); have HP1 := Lib.hid (HP0.out.next (by simp) hb); have HB1 := Lib.hid (HB0.out.trans (hb.mono HB0.out.size)); clear hb; have k0 := HR1.out.cell (j := 0) rfl; have k1 := HR1.out.cell (j := 1) rfl; have k2 := HR1.out.cell (j := 2) rfl; have q0 := HP1.out.cell (j := 0) rfl; have q1 := HP1.out.cell (j := 1) rfl; have q2 := HP1.out.cell (j := 2) rfl))
      | (have hgq := HB1; clear hgq; go_at_call 13; ((with_reducible refine (HL.out _ HB1.out).mono ?_); rintro e w2 ⟨rfl, hb⟩; have HR2 := Lib.hid (HR1.out.next (by simp) hb); have HP2 := Lib.hid (HP1.out.next (by simp) hb); have HB2 := Lib.hid (HB1.out.trans (hb.mono HB1.out.size)); clear hb k0 k1 k2 q0 q1 q2; have k0 := HR2.out.cell (j := 0) rfl; have k1 := HR2.out.cell (j := 1) rfl; have k2 := HR2.out.cell (j := 2) rfl; have q0 := HP2.out.cell (j := 0) rfl; have q1 := HP2.out.cell (j := 1) rfl; have q2 := HP2.out.cell (j := 2) rfl)))
    (try simp only [Exit.inBlock, Exit.then]); refine bodyPost_ret (results_tmp5 rfl _ _ _) rfl ?_
    exact ⟨none, 0, [], rfl, rfl, .inl rfl, (fun y hy => by cases hy), HB2.out⟩
  have d2 : decide (b + (n : Int) + 1 < p2) = false := decide_eq_false h2
  have h12 : ¬ (p2 < 1 ∨ b + ((ents es).length : Int) + 1 < p2) := by rw [hlen]; omega
  have e1 : IntKind.i64.wrap (p2 - 1) = p2 - 1 := IntWalk.i64_in _ (by omega)
  by_cases h3 : p2 - 1 < b
  · rw [ask_snap hok h12 h3]
    have d3 : decide (p2 - 1 < b) = true := decide_eq_true h3
    clear hok hlen hr hn hle hc hnc hob hcm h12
    go_enter Try.func25, Try.ntmps25
    go_wp2_with (first
      | (have hgq := HB0; clear hgq; go_at_call 12; ((with_reducible refine (HC.out _ HB0.out).mono ?_); rintro e w1 ⟨rfl, hb⟩; have HR1 := Lib.hid (HR0.out.next (by simp) hb); have HP1 := Lib.hid (HP0.out.next (by simp) hb); have HB1 := Lib.hid (HB0.out.trans (hb.mono HB0.out.size)); clear hb; have k0 := HR1.out.cell (j := 0) rfl; have k1 := HR1.out.cell (j := 1) rfl; have k2 := HR1.out.cell (j := 2) rfl; have q0 := HP1.out.cell (j := 0) rfl; have q1 := HP1.out.cell (j := 1) rfl; have q2 := HP1.out.cell (j := 2) rfl))
      | (have hgq := HB1; clear hgq; go_at_call 13; ((with_reducible refine (HL.out _ HB1.out).mono ?_); rintro e w2 ⟨rfl, hb⟩; have HR2 := Lib.hid (HR1.out.next (by simp) hb); have HP2 := Lib.hid (HP1.out.next (by simp) hb); have HB2 := Lib.hid (HB1.out.trans (hb.mono HB1.out.size)); clear hb k0 k1 k2 q0 q1 q2; have k0 := HR2.out.cell (j := 0) rfl; have k1 := HR2.out.cell (j := 1) rfl; have k2 := HR2.out.cell (j := 2) rfl; have q0 := HP2.out.cell (j := 0) rfl; have q1 := HP2.out.cell (j := 1) rfl; have q2 := HP2.out.cell (j := 2) rfl)))
    (try simp only [Exit.inBlock, Exit.then]); refine bodyPost_ret (results_tmp5 rfl _ _ _) rfl ?_
    exact ⟨none, 0, [], rfl, rfl, .inl rfl, (fun y hy => by cases hy), HB2.out⟩
  have d3 : decide (p2 - 1 < b) = false := decide_eq_false h3
  rw [ask_in hok h12 h3]
  have hi1 : InI (p2 - 1) := by unfold InI at hi ⊢; omega
  have HT := Lib.hid (fun w' (hb : Below w.heap.size w w') => refTerm_any es b t a n c w' hn hl (hr.mono_below hb) (p2 - 1) hi1)
  have HF := Lib.hid (fun w' (hb : Below w.heap.size w w') => reffrom_any es b t a n c p2 most w' hn hl hc hnc hcm (fun y hy => ⟨(hle y hy).1.below hb, (hle y hy).2⟩) (hr.mono_below hb) hi)
  obtain ⟨lf, hf⟩ := from_in (most := most) hok h12 h3
  rw [hf] at HF
  rw [hf]
  generalize termF b t (ents es) (p2 - 1) = tf at HT
  obtain ⟨tv, tb⟩ := tf
  clear hok hlen hr hn hle hc hnc hob hcm h12 hi1 hf
  go_enter Try.func25, Try.ntmps25
  go_wp2_with (first
    | (have hgq := HB3; clear hgq; go_at_call 39; ((with_reducible refine (HF.out _ HB3.out).mono ?_); rintro e w4 ⟨a3, c3, fs3, rfl, he3, hr3, hy3, hb3⟩; clear k0 k1 k2 q0 q1 q2; have HB4 := Lib.hid (HB3.out.trans (hb3.mono HB3.out.size)); have HP4 := Lib.hid (HP3.out.next (by simp) hb3); have q0 := HP4.out.cell (j := 0) rfl; have q1 := HP4.out.cell (j := 1) rfl; have q2 := HP4.out.cell (j := 2) rfl))
    | (have hgq := HB2; clear hgq; go_at_call 14; ((with_reducible refine (HT.out _ HB2.out).mono ?_); rintro e w3 ⟨rfl, hb⟩; have HR3 := Lib.hid (HR2.out.next (by simp) hb); have HP3 := Lib.hid (HP2.out.next (by simp) hb); have HB3 := Lib.hid (HB2.out.trans (hb.mono HB2.out.size)); clear hb k0 k1 k2 q0 q1 q2; have k0 := HR3.out.cell (j := 0) rfl; have k1 := HR3.out.cell (j := 1) rfl; have k2 := HR3.out.cell (j := 2) rfl; have q0 := HP3.out.cell (j := 0) rfl; have q1 := HP3.out.cell (j := 1) rfl; have q2 := HP3.out.cell (j := 2) rfl))
    | (have hgq := HB0; clear hgq; go_at_call 12; ((with_reducible refine (HC.out _ HB0.out).mono ?_); rintro e w1 ⟨rfl, hb⟩; have HR1 := Lib.hid (HR0.out.next (by simp) hb); have HP1 := Lib.hid (HP0.out.next (by simp) hb); have HB1 := Lib.hid (HB0.out.trans (hb.mono HB0.out.size)); clear hb; have k0 := HR1.out.cell (j := 0) rfl; have k1 := HR1.out.cell (j := 1) rfl; have k2 := HR1.out.cell (j := 2) rfl; have q0 := HP1.out.cell (j := 0) rfl; have q1 := HP1.out.cell (j := 1) rfl; have q2 := HP1.out.cell (j := 2) rfl))
    | (have hgq := HB1; clear hgq; go_at_call 13; ((with_reducible refine (HL.out _ HB1.out).mono ?_); rintro e w2 ⟨rfl, hb⟩; have HR2 := Lib.hid (HR1.out.next (by simp) hb); have HP2 := Lib.hid (HP1.out.next (by simp) hb); have HB2 := Lib.hid (HB1.out.trans (hb.mono HB1.out.size)); clear hb k0 k1 k2 q0 q1 q2; have k0 := HR2.out.cell (j := 0) rfl; have k1 := HR2.out.cell (j := 1) rfl; have k2 := HR2.out.cell (j := 2) rfl; have q0 := HP2.out.cell (j := 0) rfl; have q1 := HP2.out.cell (j := 1) rfl; have q2 := HP2.out.cell (j := 2) rfl)))
  (try simp only [Exit.inBlock, Exit.then]); refine bodyPost_ret (results_tmp5 rfl _ _ _) rfl ?_
  exact ⟨a3, c3, fs3, rfl, he3, hr3, hy3, HB3.out.trans (hb3.mono HB3.out.size)⟩
end Go.Proofs.Ytmihgdjnjfjjcaa
