import Derived.Test.YtkboojpkkhiceaaDoorPackHistoryDoes3
import Derived.Test.YtkboojpkkhiceaaDoorHisFindA
import Derived.Test.YtkboojpkkhiceaaDoorPackHistoryDoes2
import Derived.BigQuiet
set_option linter.unusedVariables false
set_option linter.unusedSimpArgs false
/- The document's search: the same tables; what the search stands on. -/
namespace Go.Proofs.YtkboojpkkhiceaaDoor
open Go.ChangeShapes Go.WideShapes Go.ChangeAt Go.RowKit
set_option maxRecDepth 100000

set_option maxHeartbeats 4000000 in
theorem samer_any (ts us : List Force) (a1 a2 : Option Addr) (n1 c1 n2 c2 : Nat) (w : World) (h1 : ts.length = n1) (h2 : us.length = n2) (hl1 : n1 ≤ 1000000) (hl2 : n2 ≤ 1000000) (hr : LRow layFce w a1 ts) (hs : LRow layFce w a2 us) :
    Calls Tryd.prog 42 #[.slice a1 n1 c1, .slice a2 n2 c2] w fun e w' => e = .returned (.bool (decide (ts = us))) ∧ Below w.heap.size w w' := by
  subst h1 h2
  by_cases hlen : ts.length = us.length
  · have HLEN := Lib.hid hlen
    have H1 := Lib.hid (fun k (hk : k < ts.length) => atFce hr hk)
    have H2 := Lib.hid (fun k (hk : k < us.length) => atFce hs hk)
    rw [hlen]
    clear hlen hr hs
    go_enter Tryd.func42, Tryd.ntmps42
    go_wp2
    go_loopw [5] (fun i wr => ∃ k : Nat, k ≤ us.length ∧ i = .int .i64 k ∧ Hid (ts.take k = us.take k) ∧ Below w.heap.size w wr) (fun i _ => us.length - (intOf i).toNat)
    case atStart => exact ⟨0, by omega, rfl, rfl, Below.refl _ _⟩
    case round =>
      obtain ⟨k, hk, rfl, HTK, hb⟩ := hrel
      by_cases hlt : k < us.length
      · have hlt2 : k < ts.length := by rw [HLEN.out]; exact hlt
        obtain ⟨b1, o1, e1, hcs⟩ := H1.out k hlt2
        obtain ⟨b2, o2, e2, hds⟩ := H2.out k hlt
        subst e1 e2
        obtain ⟨i0, i1, i2, i3⟩ := hcs _ hb
        obtain ⟨j0, j1, j2, j3⟩ := hds _ hb
        clear hcs hds
        have hq := fun w => neqFce_run ts[k] us[k] w
        have g1 : decide ((0 : Int) ≤ (k : Int)) = true := decide_eq_true (by omega)
        have g2 : decide ((k : Int) < (us.length : Int)) = true := decide_eq_true (by omega)
        cases he : decide (ts[k] = us[k]) with
        | true =>
          have HN : Hid (ts.take (k + 1) = us.take (k + 1)) := by show _ = _; rw [List.take_succ_eq_append_getElem hlt2, List.take_succ_eq_append_getElem hlt, HTK.out, of_decide_eq_true he]
          rw [he] at hq
          clear he H1 H2
          generalize ts[k] = x at i0 i1 i2 i3 hq
          generalize us[k] = y at j0 j1 j2 j3 hq
          go_wp2
          go_quiet (fail)
          go_wp2
          go_roundw
          case rel => exact ⟨k + 1, by omega, by go_num, HN.out, below_drewN hb _⟩
          case measure => simp [intOf]; omega
        | false =>
          have HN : Hid (ts ≠ us) := by intro h; subst h; exact (of_decide_eq_false he) rfl
          rw [he] at hq
          clear he H1 H2
          generalize ts[k] = x at i0 i1 i2 i3 hq
          generalize us[k] = y at j0 j1 j2 j3 hq
          go_wp2
          go_quiet (fail)
          go_wp2
          go_returns
          exact ⟨ret_bool (decide_eq_false HN.out).symm, below_drewN hb _⟩
      · have h := HTK.out
        rw [List.take_of_length_le (by rw [HLEN.out]; omega), List.take_of_length_le (by omega)] at h
        have HN := Lib.hid h
        clear h H1 H2
        go_wp2
        go_returns
        exact ⟨ret_bool (decide_eq_true HN.out).symm, hb⟩
  · have d1 : ((ts.length : Int) != (us.length : Int)) = true := by rw [bne_iff_ne]; omega
    have HN : Hid (ts ≠ us) := fun h => hlen (by rw [h])
    clear hr hs hlen
    go_enter Tryd.func42, Tryd.ntmps42
    go_wp2
    go_returns
    exact ⟨ret_bool (decide_eq_false HN.out).symm, Below.refl _ _⟩
structure Ded where
  d : Nat
  a : Option Addr
  c : Nat
  t : List Force
abbrev Ded.cells (x : Ded) : List Value := [.int .u16 x.d, .slice x.a x.t.length x.c]
abbrev Ded.agg (x : Ded) : Value := .agg #[.int .u16 x.d, .slice x.a x.t.length x.c]
def layDed : Lay Tryd.prog 84 Ded := Lay.struct Ded.cells 2 32 (fun _ => rfl) (by decide) (by decide) (fun x u hu => by simp at hu; rcases hu with h | h <;> subst h <;> rfl) (by kernel_rfl) _ Tryd.underlying84 rfl
/-- One entry of the dead. -/
def DeadOk (l : List HCall) (gf : Nat) (ad : Option Addr) (w : World) (x : Ded) : Prop := x.d < 65536 ∧ tabOk x.t = true ∧ S l x.d x.t = none ∧ LRow layFce w x.a x.t ∧ (x.t = [] ∨ Away gf gf ad x.a)
structure EnvR (l : List HCall) (al : Option Addr) (cl B gf : Nat) (w : World) (ds : List Ded) (ad : Option Addr) (cd : Nat) : Prop where
  bx : Box w gf [.slice al l.length cl, .slice ad ds.length cd]
  rl : LRow layCal w al l
  ow : w.ownsRow B 84 layDed.size (.slice ad ds.length cd) ds.length (ds.flatMap layDed.cells)
  dk : ∀ x ∈ ds, DeadOk l gf ad w x
  lt : gf < B
  siz : B ≤ w.heap.size
section
variable {l : List HCall} {al : Option Addr} {cl B E gf : Nat} {w w' : World} {ds : List Ded} {ad : Option Addr} {cd : Nat}
theorem EnvR.next (h : EnvR l al cl B gf w ds ad cd) (hb : Below w.heap.size w w') : EnvR l al cl B gf w' ds ad cd :=
  ⟨h.bx.next (by simp) hb, Row.below h.rl hb, own_keep h.ow (fun k _ hk => hb.block k hk), fun x hx => let ⟨a, b, c, d, e⟩ := h.dk x hx; ⟨a, b, c, Row.below d hb, e⟩, h.lt, Nat.le_trans h.siz hb.size⟩
/-- One entry more. -/
theorem EnvR.push (h : EnvR l al cl B gf w ds ad cd) (hE : E ≤ gf) (hal : ∀ b o s, al = some ⟨b, o, s⟩ → b < E) {o1 : Obj} {w5 w6 : World} {a' : Option Addr} {c' : Nat} {x : Ded} (hx : DeadOk l gf ad w x) (hg : (w.alloc o1).grownBy w5 (Value.slice ad ds.length cd).ownBlock) (hn : Near w.heap.size ad a')
    (ho : w5.ownsRow B 84 layDed.size (.slice a' (ds.length + 1) c') (ds.length + 1) ((ds ++ [x]).flatMap layDed.cells)) (hw : Wrote gf w5 w6) (hb : Box w6 gf [.slice al l.length cl, .slice a' (ds.length + 1) c']) :
    EnvR l al cl B gf w6 (ds ++ [x]) a' c' ∧ Fr gf gf ad w w6 := by
  have hpl := own_place h.ow
  have hsz : w.heap.size ≤ w5.heap.size := by have := hg.size; simp at this; omega
  have hbk : ∀ k, k < w.heap.size → (∀ o s, ad ≠ some ⟨k, o, s⟩) → w5.heap[k]? = w.heap[k]? := fun k hk hn => by
    rw [hg.block k (by simp; omega) (fun e => by obtain ⟨o', s', e2⟩ := ownBlock_some e.symm; exact hn o' s' e2)]
    exact ((Below.refl w.heap.size w).alloc (Nat.le_refl _) o1).block k hk
  have hF : Fr gf gf ad w w6 := ⟨(hw.below 0 (Nat.zero_le _)).os.trans (hg.os.trans rfl), (hw.below 0 (Nat.zero_le _)).tape.trans (hg.tape.trans rfl), (hw.below 0 (Nat.zero_le _)).output.trans (hg.output.trans rfl), by rw [hw.size]; exact hsz, fun k hk h1 h2 h3 => (hw.keep k h1).trans (hbk k hk h3)⟩
  have hkeep : ∀ y : Ded, DeadOk l gf ad w y → DeadOk l gf a' w6 y := fun y ⟨q1, q2, q3, q4, q5⟩ => by
    refine ⟨q1, q2, q3, hF.rowT q4 q5, ?_⟩
    by_cases h0 : y.t = []
    · exact .inl h0
    · rcases q5 with q5 | q5
      · exact .inl q5
      · refine .inr fun b o s e => ?_
        obtain ⟨e1, e2, e3⟩ := q5 b o s e
        refine ⟨e1, e2, fun o' s' e' => ?_⟩
        have hlt := row_ltT q4 h0 e
        rcases hn _ _ _ e' with h4 | ⟨o2, s2, h4⟩
        · omega
        · exact e3 _ _ h4
  refine ⟨⟨by rw [List.length_append]; exact hb, hF.row h.rl (fun b o s e => ?_), ?_, fun y hy => ?_, h.lt, Nat.le_trans h.siz hF.size⟩, hF⟩
  · have h1 := hal _ _ _ e
    exact ⟨by omega, by omega, fun o' s' e' => by have := (hpl _ _ _ e').1; have := h.lt; omega⟩
  · rw [List.length_append]; exact own_keep ho (fun j hj _ => hw.keep j (by have := h.lt; omega))
  · rcases List.mem_append.1 hy with hy | hy
    · exact hkeep y (h.dk y hy)
    · rw [List.mem_singleton] at hy; subst hy; exact hkeep _ hx
theorem EnvR.gobox (h : EnvR l al cl B gf w ds ad cd) {o1 : Obj} {w5 : World} (hg : (w.alloc o1).grownBy w5 (Value.slice ad ds.length cd).ownBlock) : Box w5 gf [.slice al l.length cl, .slice ad ds.length cd] := by
  have hlt := h.bx.lt (by simp)
  refine h.bx.block ((hg.block gf (by simp; omega) (fun e => ?_)).trans (((Below.refl w.heap.size w).alloc (Nat.le_refl _) o1).block gf hlt))
  obtain ⟨o', s', e2⟩ := ownBlock_some e.symm
  have := (own_place h.ow _ _ _ e2).1
  have := h.lt; omega
end
def RetFindR (l : List HCall) (al : Option Addr) (cl B gf u : Nat) (n : Nat) (ad : Option Addr) (d : Nat) (t : List Force) (w : World) (e : Ending) (w' : World) : Prop :=
  ∃ (ar : Option Addr) (cr : Nat) (ds' : List Ded) (ad' : Option Addr) (cd' : Nat), e = .returned (.tuple #[.slice ar ((S l d t).getD []).length cr, .bool (S l d t).isSome]) ∧ Row w' ar (nums ((S l d t).getD [])) ∧ EnvR l al cl B gf w' ds' ad' cd' ∧ ds'.length ≤ n + roomN u ∧ Fr gf gf ad w w' ∧ Near w.heap.size ad ad'
/-- f.dead = append(f.dead, x): where its row lies. -/
theorem wpList_pushD {ops : Array Oper} {rest : List Oper} {op : Oper} {ac : Act} {w : World} {cs : Array Value} {te : TypeId} {Q : Exit → Act → World → Prop} (hgd : op.guard = none) (s x : Operand)
    (ho : op.op = .call { callee := .builtin .append, args := #[s, x], argTypes := #[71, 71] }) (B : Nat) (a : Option Addr) (n c : Nat) (ls : List Ded) (hn : ls.length = n) (hs : ac.eval s = .slice a n c) (hown : w.ownsRow B 84 layDed.size (.slice a n c) n (ls.flatMap layDed.cells))
    (y : Ded) (hcs : cs.toList = layDed.cells y) (hx : ac.eval x = .slice (some ⟨w.heap.size, 0, none⟩) 1 1) (hby : n ≤ 2000000000) (hB : B ≤ w.heap.size)
    (h : ∀ a' c' w', w'.ownsRow B 84 layDed.size (.slice a' (n + 1) c') (n + 1) ((ls ++ [y]).flatMap layDed.cells) → (w.alloc (.cells cs te)).grownBy w' (Value.slice a n c).ownBlock → Near w.heap.size a a' → wpList Tryd.prog ops Q rest (ac.put op.dst (.slice a' (n + 1) c')) w') :
    wpList Tryd.prog ops Q (op :: rest) ac (w.alloc (.cells cs te)) := by
  have el : Elem Tryd.prog 71 84 layDed.size layDed.bytes := layDed.elem Tryd.underlying71
  have hcan : Can (w.alloc (.cells cs te)) B 84 layDed.size a n c (ls.flatMap layDed.cells) := ⟨by rw [layDed.length, hn], by unfold maxLen; omega, .inr (hown.alloc _)⟩
  have hrow : Row (w.alloc (.cells cs te)) (some ⟨w.heap.size, 0, none⟩) (layDed.cells y) := by rw [← hcs]; exact Row.new _ _ _ _
  have hbyt : (n + 1) * layDed.bytes ≤ 140737488355328 := by show (n + 1) * 32 ≤ _; omega
  have hl4 : (layDed.cells y).length = 1 * layDed.size := rfl
  obtain ⟨a', c', w', hrun, h2, h3, h4, h5⟩ := run_can el op.type B a n c _ hcan (some ⟨w.heap.size, 0, none⟩) 1 1 (layDed.cells y) hl4 hrow (layDed.one y) hbyt (Nat.le_trans hB (by simp))
  have hnear := canNear el op.type B a n c _ hcan (some ⟨w.heap.size, 0, none⟩) 1 1 (layDed.cells y) hl4 hrow (layDed.one y) hbyt (by omega) hrun
  refine wpList_plain hgd fun K hK => ?_
  unfold Oper.wp execOp
  simp only [ho, resolve, invoke, builtin, Sem.run_bind, Sem.run_pure, Result.andThen_ok, List.map_toArray, List.map_cons, List.map_nil, hs, hx, hrun]
  exact hK _ _ (h a' c' w' (by rw [List.flatMap_append, List.flatMap_cons, List.flatMap_nil, List.append_nil]; exact h5.1 (by decide)) h3 (near_down hnear (by simp)))
end Go.Proofs.YtkboojpkkhiceaaDoor
