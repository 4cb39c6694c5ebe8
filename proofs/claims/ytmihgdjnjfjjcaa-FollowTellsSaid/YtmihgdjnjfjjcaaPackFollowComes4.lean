import Derived.Test.YtmihgdjnjfjjcaaFolSort
import Derived.Test.YtmihgdjnjfjjcaaPackFollowComes3
set_option linter.unusedVariables false
set_option linter.unusedSimpArgs false
/- A short row sorted from the greatest on, whole (follow.down). -/
namespace Go.Proofs.Ytmihgdjnjfjjcaa
open Go.ChangeShapes Go.WideShapes Go.ChangeAt Go.RowKit
set_option maxRecDepth 100000

def RetSomeI (w : World) (e : Ending) (w' : World) : Prop := ∃ r : Int, e = .returned (.int .i64 r) ∧ w' = w
theorem len64_any (n : Nat) (w : World) (h : n ≤ 7) : Calls Try.prog 64 #[.int .u64 n] w (RetSomeI w) := by
  obtain rfl | rfl | rfl | rfl | rfl | rfl | rfl | rfl : n = 0 ∨ n = 1 ∨ n = 2 ∨ n = 3 ∨ n = 4 ∨ n = 5 ∨ n = 6 ∨ n = 7 := by omega
  all_goals
    go_enter Try.func64, Try.ntmps64
    go_wp2_with fail
    go_ret
    exact ⟨_, rfl, rfl⟩
theorem len_any (n : Nat) (w : World) (h : n ≤ 7) : Calls Try.prog 51 #[.int .u64 n] w (RetSomeI w) := by
  have HL := Lib.hid (fun w' => len64_any n w' h)
  go_enter Try.func51, Try.ntmps51
  go_wp2_with (go_at_call 64; ((with_reducible refine (HL.out _).mono ?_); rintro e w2 ⟨r, rfl, rfl⟩))
  go_ret
  exact ⟨_, rfl, rfl⟩
set_option maxHeartbeats 4000000 in
theorem pdq_any (g n c : Nat) (l : List Int) (lim : Int) (w : World) (hn : l.length = n) (h1 : 1 ≤ n) (h7 : n ≤ 7) (hc : n ≤ c) (hx : Box w g (ints l)) :
    Calls Try.prog 50 #[.slice (some ⟨g, 0, none⟩) n c, .int .i64 0, .int .i64 n, .int .i64 lim, .func (.func 44) #[] #[]] w (RetSort w g l) := by
  have HI := Lib.hid (insertion_any g n c l w hn h1 h7 hc hx)
  have HN := Lib.hid hn
  have hd : decide ((n : Int) ≤ 12) = true := decide_eq_true (by omega)
  clear hx hn
  go_enter Try.func50, Try.ntmps50
  go_wp2_with fail
  go_loopw [1, 2, 3] (fun a b q wr => a = .int .i64 0 ∧ b = .int .i64 n ∧ q = .int .i64 lim ∧ wr = w) (fun _ _ _ _ => 0)
  case atStart => exact ⟨rfl, rfl, rfl, rfl⟩
  case round =>
    obtain ⟨rfl, rfl, rfl, hw⟩ := hrel
    subst hw
    go_wp2_with (go_at_call 55; ((with_reducible refine HI.out.mono ?_); rintro e w2 ⟨rfl, hs⟩; have HS := Lib.hid hs; clear hs))
    go_end0
    exact ⟨rfl, HS.out⟩
set_option maxHeartbeats 4000000 in
theorem sortFunc_any (g n c : Nat) (l : List Int) (w : World) (hn : l.length = n) (h1 : 1 ≤ n) (h7 : n ≤ 7) (hc : n ≤ c) (hx : Box w g (ints l)) :
    Calls Try.prog 43 #[.slice (some ⟨g, 0, none⟩) n c, .func (.func 44) #[] #[]] w (RetSort w g l) := by
  have HP := Lib.hid (fun lim => pdq_any g n c l lim w hn h1 h7 hc hx)
  have HL := Lib.hid (fun w' => len_any n w' h7)
  have HN := Lib.hid hn
  clear hx hn
  go_enter Try.func43, Try.ntmps43
  go_wp2_with (first
    | (go_at_call 51; ((with_reducible refine (HL.out _).mono ?_); rintro e w2 ⟨r, rfl, rfl⟩))
    | (go_at_call 50; ((with_reducible refine (HP.out _).mono ?_); rintro e w2 ⟨rfl, hs⟩; have HS := Lib.hid hs; clear hs)))
  go_end0
  exact ⟨rfl, HS.out⟩
set_option maxHeartbeats 4000000 in
theorem down_any (g n c : Nat) (l : List Int) (w : World) (hn : l.length = n) (h1 : 1 ≤ n) (h7 : n ≤ 7) (hc : n ≤ c) (hx : Box w g (ints l)) :
    Calls Try.prog 31 #[.slice (some ⟨g, 0, none⟩) n c] w (RetSort w g l) := by
  have HP := Lib.hid (sortFunc_any g n c l w hn h1 h7 hc hx)
  have HN := Lib.hid hn
  clear hx hn
  go_enter Try.func31, Try.ntmps31
  go_wp2_with (go_at_call 43; ((with_reducible refine HP.out.mono ?_); rintro e w2 ⟨rfl, hs⟩; have HS := Lib.hid hs; clear hs))
  go_end0
  exact ⟨rfl, HS.out⟩
end Go.Proofs.Ytmihgdjnjfjjcaa

/- A row of numbers of the call's own: a number behind it; the row as a variable. -/
namespace Go.Proofs.Ytmihgdjnjfjjcaa
open Go.ChangeShapes Go.WideShapes Go.ChangeAt Go.RowKit
set_option maxRecDepth 100000

theorem el_ints : Elem Try.prog 43 3 1 8 where
  under := Try.underlying43
  info := by
    have h : (Try.prog.info? 3).map (fun i => (i.zero, i.size, i.bytes)) = some (some (.int .i64 0), 1, 8) := by kernel_rfl
    obtain ⟨i, hi, h0, h1, h2⟩ := info_parts h
    exact ⟨i, _, hi, h0, h1, h2, rfl⟩
  pos := by decide
  bpos := by decide
abbrev OwnI (w : World) (B : Nat) (a : Option Addr) (n c : Nat) (xs : List Int) : Prop := w.ownsRow B 3 1 (.slice a n c) n (ints xs)
theorem OwnI.next {w w' : World} {B : Nat} {a : Option Addr} {n c : Nat} {xs : List Int} (h : OwnI w B a n c xs) (hb : Below w.heap.size w w') : OwnI w' B a n c xs :=
  own_mid (B := 0) h (Mid.below hb (Nat.le_refl _)) (Nat.zero_le _) (Nat.le_refl _)
theorem wpList_int1 {ops : Array Oper} {rest : List Oper} {op : Oper} {ac : Act} {w : World} {te : TypeId} {Q : Exit → Act → World → Prop} (hgd : op.guard = none) (s x : Operand)
    (ho : op.op = .call { callee := .builtin .append, args := #[s, x], argTypes := #[43, 43] }) (B : Nat) (a : Option Addr) (n c : Nat) (xs : List Int) (hs : ac.eval s = .slice a n c) (hown : OwnI w B a n c xs)
    (y : Int) (H : Nat) (hH : w.heap.size = H) (hx : ac.eval x = .slice (some ⟨H, 0, none⟩) 1 1) (hby : (n + 1) * 8 ≤ 140737488355328) (hB : B ≤ w.heap.size)
    (h : ∀ a' c' w', OwnI w' B a' (n + 1) c' (xs ++ [y]) → Below B w w' → w.heap.size < w'.heap.size → wpList Try.prog ops Q rest (ac.put op.dst (.slice a' (n + 1) c')) w') : wpList Try.prog ops Q (op :: rest) ac (w.alloc (.cells #[.int .i64 y] te)) := by
  subst hH
  refine wpList_app el_ints hgd s x ho B (.slice a n c) n _ hs (hown.alloc _) (some ⟨w.heap.size, 0, none⟩) 1 1 [.int .i64 y] hx rfl (Row.new _ _ _ _) (by simp [Value.oneCell']) hby (Nat.le_trans hB (by simp)) ?_
  intro a' c' w' ho2 hg2
  have hbb := Below.app ((Below.refl B w).alloc hB (.cells #[.int .i64 y] te)) (hown.alloc _) hg2 (Nat.le_trans hB (by simp))
  refine h a' c' w' ?_ hbb ?_
  · show World.ownsRow _ _ _ _ _ _ _
    rw [show ints (xs ++ [y]) = ints xs ++ [.int .i64 y] from List.map_append]
    exact ho2
  · have := hg2.size; simp at this; omega
theorem OwnI.box {w : World} {B : Nat} {a : Option Addr} {n c : Nat} {xs : List Int} (h : OwnI w B a n c xs) (h0 : 0 < n) (hn : xs.length = n) : ∃ g, a = some ⟨g, 0, none⟩ ∧ B ≤ g ∧ n ≤ c ∧ Box w g (ints xs) := by
  obtain ⟨hl, h⟩ := h
  rcases h with ⟨hv, hz⟩ | ⟨g, cap, cur, hv, hB, hg, hnc, hm, hs, ht⟩
  · omega
  · simp only [Value.slice.injEq] at hv
    obtain ⟨rfl, _, rfl⟩ := hv
    have hcell : ∀ j, w.cell? ⟨g, 0 + j, none⟩ = cur[j]? := fun j => by simp [World.cell?, hg]
    refine ⟨g, rfl, hB, hnc, fun j v hv => ?_, fun j hj => ?_⟩
    · rw [hcell]
      rw [← ht, List.getElem?_take] at hv
      split at hv
      · simpa using hv
      · cases hv
    · rw [List.length_map, hn] at hj
      rw [hcell, Array.getElem?_eq_getElem (by omega)]
      exact ⟨rfl, by simp [World.frozen?, hg]⟩
end Go.Proofs.Ytmihgdjnjfjjcaa
