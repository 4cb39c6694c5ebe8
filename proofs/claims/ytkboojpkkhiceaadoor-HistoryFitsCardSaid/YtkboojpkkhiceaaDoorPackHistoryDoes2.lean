import Derived.Test.YtkboojpkkhiceaaDoorHisTab
import Derived.Test.YtkboojpkkhiceaaDoorPackHistoryDoes1
import Derived.BigQuiet
set_option linter.unusedVariables false
set_option linter.unusedSimpArgs false
/- What a table answers, the program's side: what its walks share. (printed by gen_hisdo.py) -/
namespace Go.Proofs.YtkboojpkkhiceaaDoor
open Go.ChangeShapes Go.WideShapes Go.ChangeAt Go.RowKit
set_option maxRecDepth 100000

/-- A table and an answer are returned. -/
def RetFA (w : World) (t : List Force) (y : Ans) (e : Ending) (w' : World) : Prop :=
  ∃ a c, e = .returned (.tuple #[.slice a t.length c, y.agg]) ∧ t.length ≤ c ∧ (a = none → c = 0) ∧ LRow layFce w' a t ∧ Near w.heap.size none a ∧ Below w.heap.size w w'
theorem near_le {B B' : Nat} {a : Option Addr} (h : Near B none a) (hB : B' ≤ B) : Near B' none a := fun b o s e => by
  rcases h b o s e with h1 | ⟨_, _, h1⟩
  · exact .inl (Nat.le_trans hB h1)
  · cases h1
theorem results_ans {fn : Func} {u p : Tmp} (h : fn.results = #[.tmp u, .cell p 31]) (tmps : Array Value) (w : World) (b : Nat) (y : Ans) (hp : tmps.getD p undef = .pointer (some ⟨b, 0, none⟩)) (hc : w.rangeAt b 0 y.cells) :
    (results fn tmps).run Tryd.prog w = .ok (.tuple #[tmps.getD u undef, y.agg]) w := by
  have hl : (loadVar 31 ⟨b, 0, none⟩).run Tryd.prog w = .ok (layAns.val y) w := by
    have h1 := layAns.load w b 0 y hc
    simpa only [Instr.loadAt, Instr.sureAddr, Sem.run_bind, Sem.run_pure, Result.andThen_ok] using h1
  have hp2 : (tmps[p]?).getD undef = .pointer (some ⟨b, 0, none⟩) := by rw [← hp]; simp
  simp only [results, h]
  simp [Sem.run_bind, Result.andThen, hp2, asAddr, hl]
  rfl
theorem row_wrote {w w' : World} {a : Option Addr} {xs : List Value} {g B : Nat} (h : Row w a xs) (hw : Wrote g w w') (hn : Near B none a) (hg : g < B) : Row w' a xs := by
  rcases h with h | ⟨b, o, rfl, hc⟩
  · exact .inl h
  · refine .inr ⟨b, o, rfl, fun i hi => ?_⟩
    have hb : B ≤ b := by
      rcases hn b o none rfl with h1 | ⟨_, _, h1⟩
      · exact h1
      · cases h1
    rw [World.cell?_of_block (w := w) (hw.keep b (by omega))]; exact hc i hi
theorem mine_wrote {w w' : World} {B g o g1 : Nat} {xs : List Force} (h : Mine layFce w B g o xs) (hw : Wrote g1 w w') (hg : g ≠ g1) : Mine layFce w' B g o xs :=
  ⟨h.1, fun j v hv => by rw [World.cell?_of_block (w := w) (hw.keep g hg)]; exact h.2.1 j v hv, fun j hj => by
    have := h.2.2 j hj
    refine ⟨by rw [World.cell?_of_block (w := w) (hw.keep g hg)]; exact this.1, ?_⟩
    have h2 := this.2
    simp only [World.frozen?] at h2 ⊢
    rw [hw.keep g hg]; exact h2⟩
theorem own_nextF {w w' : World} {B : Nat} {e : TypeId} {size : Nat} {v : Value} {n : Nat} {xs : List Value} (h : w.ownsRow B e size v n xs) (hb : Below w.heap.size w w') : w'.ownsRow B e size v n xs :=
  own_mid h (Mid.below (B := B) hb (Nat.le_refl _)) (Nat.le_refl _) (Nat.le_refl _)
theorem Can.next' {w w' : World} {B n c : Nat} {e : TypeId} {size : Nat} {a : Option Addr} {xs : List Value} (h : Can w B e size a n c xs) (hb : Below w.heap.size w w') : Can w' B e size a n c xs :=
  ⟨h.1, h.2.1, h.2.2.imp (fun ⟨h1, h2⟩ => ⟨h1, Row.below h2 hb⟩) (fun h => own_nextF h hb)⟩
theorem do1_any (x : Force) (te : Int) (w : World) (h1 : 1 ≤ x.tenant) (h2 : x.tenant ≤ 16) (h3 : 1 ≤ te) (h4 : te ≤ 16) :
    Calls Tryd.prog 23 #[x.agg, .int .i64 te] w fun e w' => e = .returned (.int .i64 (x.tenant - te)) ∧ Below w.heap.size w w' := by
  obtain ⟨x0, x1, x2, x3⟩ := x
  simp only at h1 h2
  go_enter Tryd.func23, Tryd.ntmps23
  go_wp2
  go_returns
  exact ⟨rfl, (by repeat' (first | (with_reducible exact Below.refl _ _) | (with_reducible assumption) | (with_reducible refine Below.drew ?_) | (with_reducible refine Below.more ?_ _) | (with_reducible refine Below.put ?_ ?_ _) | (with_reducible refine Below.next ?_ (by with_reducible assumption)) | (with_reducible exact Nat.le_refl _) | (with_reducible refine Below.size' ?_) | omega))⟩
theorem enter_do1 (args : Array Value) (w : World) : (callFunc 23 args).run Tryd.prog w = .ok (.enter 23 args) w := by kernel_rfl
theorem tab_parts {t : List Force} (h : tabOk t = true) : (∀ y ∈ t, 1 ≤ y.tenant ∧ y.tenant ≤ 16 ∧ y.tick = 0) ∧ t.Pairwise (fun x y => x.tenant < y.tenant) := by
  have h2 := chainOk_iff.1 h
  refine ⟨fun y hy => ?_, h2.2⟩
  have h3 := h2.1 y hy
  have h4 := h3.2
  unfold goodT at h4
  simp only [Bool.and_eq_true, decide_eq_true_eq] at h4
  exact ⟨by have := h3.1; omega, h4.1.2, h4.1.1⟩
theorem find_hit {t : List Force} {te : Int} {y : Force} (hp : t.Pairwise (fun x y => x.tenant < y.tenant)) (h : t[lessK Force.tenant te t]? = some y) (hy : y.tenant = te) : findK Force.tenant t te = some y := by
  obtain ⟨hk, hx⟩ := List.getElem?_eq_some_iff.1 h
  rw [findK_at hp hk (by rw [hx]; exact hy), hx]
theorem find_miss {t : List Force} {te : Int} (hp : t.Pairwise (fun x y => x.tenant < y.tenant)) (h : ∀ y, t[lessK Force.tenant te t]? = some y → y.tenant ≠ te) : findK Force.tenant t te = none := by
  refine findK_none fun j hj he => ?_
  rcases Nat.lt_trichotomy j (lessK Force.tenant te t) with h1 | h1 | h1
  · have := lessK_lo (key := Force.tenant) te j hj h1; omega
  · subst h1; exact h _ (List.getElem?_eq_getElem hj) he
  · have hk : lessK Force.tenant te t < t.length := by omega
    have h2 := lessK_hi (key := Force.tenant) te hp _ hk (Nat.le_refl _)
    have h3 := List.pairwise_iff_getElem.1 hp _ _ hk hj h1
    omega
theorem filter_erase {t : List Force} {te : Int} {y : Force} (hp : t.Pairwise (fun x y => x.tenant < y.tenant)) {k : Nat} (h : t[k]? = some y) (hy : y.tenant = te) : t.filter (fun z => decide (z.tenant ≠ te)) = t.eraseIdx k := by
  induction t generalizing k with
  | nil => simp at h
  | cons z t ih =>
    rw [List.pairwise_cons] at hp
    cases k with
    | zero =>
      simp only [List.getElem?_cons_zero, Option.some.injEq] at h
      subst h
      rw [List.filter_cons_of_neg (by simp [hy]), List.eraseIdx_cons_zero]
      exact List.filter_eq_self.2 fun u hu => by have := hp.1 u hu; simp; omega
    | succ k =>
      simp only [List.getElem?_cons_succ] at h
      have hm : y ∈ t := List.mem_of_getElem? h
      rw [List.filter_cons_of_pos (by have := hp.1 y hm; simp; omega), List.eraseIdx_cons_succ, ih hp.2 h]
end Go.Proofs.YtkboojpkkhiceaaDoor

/- Tables that grow beside one another; a table copied; in plain, what lies ahead of a tenant, what behind. -/
namespace Go.Proofs.YtkboojpkkhiceaaDoor
open Go.ChangeShapes Go.WideShapes Go.ChangeAt Go.RowKit
set_option maxRecDepth 100000

/-- A table that grows: its blocks lie from B on. -/
structure Gr (w : World) (B : Nat) (a : Option Addr) (c : Nat) (xs : List Force) : Prop where
  can : Can w B 49 layFce.size a xs.length c (xs.flatMap layFce.cells)
  base : ∀ b o s, a = some ⟨b, o, s⟩ → B ≤ b ∧ b < w.heap.size
def Apart (a b : Option Addr) : Prop := ∀ x o s y o' s', a = some ⟨x, o, s⟩ → b = some ⟨y, o', s'⟩ → x ≠ y
theorem Apart.symm {a b : Option Addr} (h : Apart a b) : Apart b a := fun x o s y o' s' h1 h2 e => h y o' s' x o s h2 h1 e.symm
theorem Gr.nil (w : World) (B : Nat) : Gr w B none 0 [] := ⟨Can.nil _ _ _ _, fun _ _ _ h => by cases h⟩
theorem Apart.nil : Apart none none := fun _ _ _ _ _ _ h => by cases h
theorem Gr.below {w w' : World} {B : Nat} {a : Option Addr} {c : Nat} {xs : List Force} (h : Gr w B a c xs) (hb : Below w.heap.size w w') : Gr w' B a c xs :=
  ⟨h.can.next' hb, fun b o s e => ⟨(h.base b o s e).1, Nat.lt_of_lt_of_le (h.base b o s e).2 hb.size⟩⟩
theorem grown_below {w w' : World} {B n c : Nat} {a : Option Addr} (hg : w.grownBy w' (Value.slice a n c).ownBlock) (hB : B ≤ w.heap.size) (ha : ∀ b o s, a = some ⟨b, o, s⟩ → B ≤ b) : Below B w w' :=
  ⟨hg.os, hg.tape, hg.output, hg.size, fun k hk => hg.block k (by omega) (fun e => by
    cases a with
    | none => simp [Value.ownBlock] at e
    | some ad =>
      obtain ⟨y, u, v⟩ := ad
      simp [Value.ownBlock] at e
      subst e
      have := ha k u v rfl; omega)⟩
theorem can_kept {w w' : World} {B n c : Nat} {e : TypeId} {size : Nat} {a : Option Addr} {xs : List Value} {row : Option Nat} (h : Can w B e size a n c xs) (hg : w.grownBy w' row) (hne : ∀ b o s, a = some ⟨b, o, s⟩ → some b ≠ row) : Can w' B e size a n c xs := by
  refine ⟨h.1, h.2.1, ?_⟩
  rcases h.2.2 with ⟨h1, h2⟩ | h3
  · refine .inl ⟨h1, ?_⟩
    rcases h2 with h2 | ⟨b, o, rfl, hc⟩
    · exact .inl h2
    · refine .inr ⟨b, o, rfl, fun i hi => ?_⟩
      rw [World.cell?_of_block (w := w) (hg.block b (World.block_lt_of_cell? w _ (hc i hi)) (hne b o none rfl))]; exact hc i hi
  · obtain ⟨h1, h2⟩ := h3
    refine .inr ⟨h1, ?_⟩
    rcases h2 with h2 | ⟨g, cap, cur, h3, h4, h5, h6⟩
    · exact .inl h2
    · refine .inr ⟨g, cap, cur, h3, h4, ?_, h6⟩
      simp only [Value.slice.injEq] at h3
      rw [hg.block g ((Array.getElem?_eq_some_iff.1 h5).1) (hne g 0 none h3.1)]; exact h5
theorem ownBlock_some {a : Option Addr} {n c k : Nat} (h : (Value.slice a n c).ownBlock = some k) : ∃ o s, a = some ⟨k, o, s⟩ := by
  cases a with
  | none => simp [Value.ownBlock] at h
  | some ad =>
    obtain ⟨y, u, v⟩ := ad
    simp [Value.ownBlock] at h
    subst h
    exact ⟨u, v, rfl⟩
theorem el_fce : Elem Tryd.prog 22 49 layFce.size layFce.bytes := layFce.elem Tryd.underlying22
/-- One thing more; another table that grows stands. -/
theorem wpList_gr1 {ops : Array Oper} {rest : List Oper} {op : Oper} {ac : Act} {w : World} {cs : Array Value} {te : TypeId} {Q : Exit → Act → World → Prop} (hgd : op.guard = none) (s x : Operand)
    (ho : op.op = .call { callee := .builtin .append, args := #[s, x], argTypes := #[22, 22] })
    (B : Nat) (a : Option Addr) (n c : Nat) (xs : List Force) (hn : xs.length = n) (hs : ac.eval s = .slice a n c) (h0 : Gr w B a c xs) (y : Force) (hcs : cs.toList = layFce.cells y)
    (hx : ac.eval x = .slice (some ⟨w.heap.size, 0, none⟩) 1 1) (hl : n ≤ 2000) (hB : B ≤ w.heap.size)
    (h : ∀ a' c' w', Gr w' B a' c' (xs ++ [y]) → Below B w w' → (∀ a2 c2 ys, Gr w B a2 c2 ys → Apart a a2 → Gr w' B a2 c2 ys ∧ Apart a' a2) → wpList Tryd.prog ops Q rest (ac.put op.dst (.slice a' (n + 1) c')) w') :
    wpList Tryd.prog ops Q (op :: rest) ac (w.alloc (.cells cs te)) := by
  subst hn
  have hby : (xs.length + 1) * layFce.bytes ≤ 140737488355328 := by show (xs.length + 1) * 32 ≤ _; omega
  have hl4 : (layFce.cells y).length = 1 * layFce.size := rfl
  refine wpList_nearE el_fce hgd s x ho B a xs.length c _ hs (h0.can.alloc _) (some ⟨w.heap.size, 0, none⟩) 1 1 (layFce.cells y) hx hl4 (by rw [← hcs]; exact Row.new _ _ _ _) (layFce.one y) hby (Nat.le_trans hB (by simp)) ?_
  intro a' c' w' hcan hg hnear
  have hcan' : Can w' B 49 layFce.size a' (xs ++ [y]).length c' ((xs ++ [y]).flatMap layFce.cells) := by
    rw [List.length_append, List.flatMap_append, List.flatMap_cons, List.flatMap_nil, List.append_nil]; exact hcan
  have hsz : w.heap.size + 1 ≤ w'.heap.size := by have := hg.size; simp at this; exact this
  have hne0 : (xs ++ [y]).flatMap layFce.cells ≠ [] := fun h3 => by
    have h4 := congrArg List.length h3
    rw [layFce.length, List.length_nil, Nat.mul_eq_zero] at h4
    have := layFce.pos
    rcases h4 with h4 | h4
    · simp at h4
    · omega
  refine h a' c' w' ⟨hcan', fun b o t e => ?_⟩ ?_ (fun a2 c2 ys g2 hap => ?_)
  · refine ⟨?_, ?_⟩
    · rcases hnear b o t e with h1 | ⟨o', s', h1⟩
      · simp at h1; omega
      · exact (h0.base b o' s' h1).1
    · rcases hcan'.row with h1 | ⟨b1, o1, h1, h2⟩
      · exact absurd h1 hne0
      · rw [e] at h1
        simp only [Option.some.injEq, Addr.mk.injEq] at h1
        obtain ⟨rfl, rfl, rfl⟩ := h1
        exact Row.lt (.inr ⟨b, o, rfl, h2⟩) hne0
  · exact ((Below.refl B w).alloc hB _).trans (grown_below hg (Nat.le_trans hB (by simp)) (fun b o s e => (h0.base b o s e).1))
  · have hne : ∀ b o s, a2 = some ⟨b, o, s⟩ → some b ≠ (Value.slice a xs.length c).ownBlock := fun b o s e e2 => by
      obtain ⟨o', s', h1⟩ := ownBlock_some e2.symm
      exact hap b o' s' b o s h1 e rfl
    refine ⟨⟨can_kept (g2.can.alloc _) hg hne, fun b o s e => ⟨(g2.base b o s e).1, Nat.lt_of_lt_of_le (Nat.lt_of_lt_of_le (g2.base b o s e).2 (by simp)) hg.size⟩⟩, fun x o s y o' s' e1 e2 => ?_⟩
    have hlt := (g2.base y o' s' e2).2
    rcases hnear x o s e1 with h1 | ⟨o3, s3, h1⟩
    · simp at h1; omega
    · exact hap x o3 s3 y o' s' h1 e2
/-- A row of things behind a table that grows. -/
theorem wpList_grn {ops : Array Oper} {rest : List Oper} {op : Oper} {ac : Act} {w : World} {Q : Exit → Act → World → Prop} (hgd : op.guard = none) (s x : Operand)
    (ho : op.op = .call { callee := .builtin .append, args := #[s, x], argTypes := #[22, 22] })
    (B : Nat) (a : Option Addr) (n c : Nat) (xs : List Force) (hn : xs.length = n) (hs : ac.eval s = .slice a n c) (h0 : Gr w B a c xs) (ad : Option Addr) (m k : Nat) (ys : List Force) (hm : ys.length = m)
    (hx : ac.eval x = .slice ad m k) (hr : LRow layFce w ad ys) (hl : n ≤ 2000) (hl2 : m ≤ 2000) (hB : B ≤ w.heap.size)
    (h : ∀ a' c' w', Can w' B 49 layFce.size a' (xs ++ ys).length c' ((xs ++ ys).flatMap layFce.cells) → Below B w w' → Near B none a' → wpList Tryd.prog ops Q rest (ac.put op.dst (.slice a' (n + m) c')) w') :
    wpList Tryd.prog ops Q (op :: rest) ac w := by
  subst hn hm
  have hby : (xs.length + ys.length) * layFce.bytes ≤ 140737488355328 := by show (xs.length + ys.length) * 32 ≤ _; omega
  refine wpList_nearE el_fce hgd s x ho B a xs.length c _ hs h0.can ad ys.length k _ hx (layFce.length _) hr (layFce.ones _) hby hB ?_
  intro a' c' w' hcan hg hnear
  refine h a' c' w' (by rw [List.length_append, List.flatMap_append]; exact hcan) (grown_below hg hB (fun b o s e => (h0.base b o s e).1)) (fun b o s e => .inl ?_)
  rcases hnear b o s e with h1 | ⟨o', s', h1⟩
  · omega
  · exact (h0.base b o' s' h1).1
/-- The same, as a step of a region that draws. -/
theorem step_grn {ops : Array Oper} {op : Oper} {ac : Act} {w : World} {K : Act → World → Prop} {Q : Exit → Act → World → Prop} {E : Prop} (hgd : op.guard = none) (s x : Operand)
    (ho : op.op = .call { callee := .builtin .append, args := #[s, x], argTypes := #[22, 22] })
    (B : Nat) (a : Option Addr) (n c : Nat) (xs : List Force) (hn : xs.length = n) (hs : ac.eval s = .slice a n c) (h0 : Gr w B a c xs) (ad : Option Addr) (m k : Nat) (ys : List Force) (hm : ys.length = m)
    (hx : ac.eval x = .slice ad m k) (hr : LRow layFce w ad ys) (hl : n ≤ 2000) (hl2 : m ≤ 2000) (hB : B ≤ w.heap.size)
    (h : ∀ a' c' w', Can w' B 49 layFce.size a' (xs ++ ys).length c' ((xs ++ ys).flatMap layFce.cells) → Below B w w' → Near B none a' → K (ac.put op.dst (.slice a' (n + m) c')) w') :
    if Region.wanted op (yielded ops ac.tmps) = true then Oper.wp Tryd.prog op ac w K Q else E := by
  subst hn hm
  have hby : (xs.length + ys.length) * layFce.bytes ≤ 140737488355328 := by show (xs.length + ys.length) * 32 ≤ _; omega
  have hw : Region.wanted op (yielded ops ac.tmps) = true := by simp [Region.wanted, hgd]
  rw [if_pos hw]
  obtain ⟨a', c', w', hrun, h2, h3, h4, h5⟩ := run_can el_fce op.type B a xs.length c _ h0.can ad ys.length k _ (layFce.length _) hr (layFce.ones _) hby hB
  unfold Oper.wp execOp
  simp only [ho, resolve, invoke, builtin, Sem.run_bind, Sem.run_pure, Result.andThen_ok, List.map_toArray, List.map_cons, List.map_nil, hs, hx, hrun]
  refine h a' c' w' (by rw [List.length_append, List.flatMap_append]; exact h2) (grown_below h3 hB (fun b o s e => (h0.base b o s e).1)) ?_
  by_cases hm0 : 0 < ys.length
  · exact Near.own (h5.1 hm0) (Nat.le_refl _)
  · intro b o s e
    rw [(h5.2 (by omega)).1] at e
    exact .inl (h0.base b o s e).1
def RetF (w : World) (t : List Force) (e : Ending) (w' : World) : Prop :=
  ∃ a c, e = .returned (.slice a t.length c) ∧ t.length ≤ c ∧ (a = none → c = 0) ∧ LRow layFce w' a t ∧ Near w.heap.size none a ∧ Below w.heap.size w w'
theorem refcopied_any (t : List Force) (a : Option Addr) (n c : Nat) (w : World) (hn : t.length = n) (hl : n ≤ 1000) (hr : LRow layFce w a t) :
    Calls Tryd.prog 29 #[.slice a n c] w (RetF w t) := by
  subst hn
  go_enter Tryd.func29, Tryd.ntmps29
  go_wp2_with (at_builtin; refine wpList_grn rfl (.tmp 4) (.tmp 5) rfl w.heap.size none 0 0 [] rfl rfl (Gr.nil _ _) a t.length c t rfl rfl hr (by omega) (by omega) (Nat.le_refl _) ?_; intro a' c' w' hcan hb hnear; have HC := Lib.hid hcan; clear hcan)
  go_returns
  have h := HC.out
  rw [List.nil_append] at h
  exact ⟨a', c', rfl, h.le, h.none (by decide), h.row, hnear, hb⟩
theorem box_put {P : Program} {e : TypeId} {α : Type} {L : Lay P e α} {w : World} {g : Nat} {cs : List Value} (z : α) (h : Box w g cs) (hl : cs.length = L.size) : Box (w.setCells g 0 (L.cells z)) g (L.cells z) ∧ Wrote g w (w.setCells g 0 (L.cells z)) := by
  have ht : w.there g 0 L.size := by rw [← hl]; exact h.there
  exact ⟨⟨range_put z ht, by rw [L.len]; exact World.there_setCells ht _ _ _⟩, ⟨fun _ hB => Below.setCells hB _ _ (Below.refl _ _), setCells_size _ _ _ _, fun k hk => setCells_keep g _ _ _ k hk⟩⟩
def loT (te : Int) (t : List Force) : List Force := t.filter (fun y => decide (y.tenant < te))
def hiT (te : Int) (t : List Force) : List Force := t.filter (fun y => decide (te < y.tenant))
/-- The last one of a tenant. -/
def owT (te : Int) (t : List Force) : Option Force := (t.filter (fun y => decide (y.tenant = te))).getLast?
theorem loT_yes {te : Int} {t : List Force} {k : Nat} (h : k < t.length) (h1 : t[k].tenant < te) : loT te (t.take (k + 1)) = loT te (t.take k) ++ [t[k]] ∧ hiT te (t.take (k + 1)) = hiT te (t.take k) ∧ owT te (t.take (k + 1)) = owT te (t.take k) := by
  unfold loT hiT owT
  rw [List.take_succ_eq_append_getElem h]
  refine ⟨?_, ?_, ?_⟩
  · rw [List.filter_append]; simp [h1]
  · rw [List.filter_append]; simp; omega
  · rw [List.filter_append, List.filter_cons_of_neg (by simp; omega), List.filter_nil, List.append_nil]
theorem hiT_yes {te : Int} {t : List Force} {k : Nat} (h : k < t.length) (h1 : te < t[k].tenant) : loT te (t.take (k + 1)) = loT te (t.take k) ∧ hiT te (t.take (k + 1)) = hiT te (t.take k) ++ [t[k]] ∧ owT te (t.take (k + 1)) = owT te (t.take k) := by
  unfold loT hiT owT
  rw [List.take_succ_eq_append_getElem h]
  refine ⟨?_, ?_, ?_⟩
  · rw [List.filter_append]; simp; omega
  · rw [List.filter_append]; simp [h1]
  · rw [List.filter_append, List.filter_cons_of_neg (by simp; omega), List.filter_nil, List.append_nil]
theorem owT_yes {te : Int} {t : List Force} {k : Nat} (h : k < t.length) (h1 : t[k].tenant = te) : loT te (t.take (k + 1)) = loT te (t.take k) ∧ hiT te (t.take (k + 1)) = hiT te (t.take k) ∧ owT te (t.take (k + 1)) = some t[k] := by
  unfold loT hiT owT
  rw [List.take_succ_eq_append_getElem h]
  refine ⟨?_, ?_, ?_⟩
  · rw [List.filter_append]; simp; omega
  · rw [List.filter_append]; simp; omega
  · rw [List.filter_append]; simp [h1]
theorem loT_len (te : Int) (t : List Force) : (loT te t).length ≤ t.length := List.length_filter_le _ _
theorem hiT_len (te : Int) (t : List Force) : (hiT te t).length ≤ t.length := List.length_filter_le _ _
theorem lo_hi {te : Int} {t : List Force} (hp : t.Pairwise (fun x y => x.tenant < y.tenant)) : loT te t ++ hiT te t = t.filter (fun y => decide (y.tenant ≠ te)) := by
  induction t with
  | nil => rfl
  | cons x t ih =>
    rw [List.pairwise_cons] at hp
    have ih := ih hp.2
    unfold loT hiT at *
    rcases Int.lt_trichotomy x.tenant te with h | h | h
    · rw [List.filter_cons_of_pos (by simpa using h), List.filter_cons_of_neg (by simp; omega), List.filter_cons_of_pos (by simp; omega), List.cons_append, ih]
    · rw [List.filter_cons_of_neg (by simp; omega), List.filter_cons_of_neg (by simp; omega), List.filter_cons_of_neg (by simp; omega), ih]
    · have h0 : t.filter (fun y => decide (y.tenant < te)) = [] := List.filter_eq_nil_iff.2 fun y hy => by have := hp.1 y hy; simp; omega
      rw [h0] at ih
      rw [List.filter_cons_of_neg (by simp; omega), List.filter_cons_of_pos (by simpa using h), List.filter_cons_of_pos (by simp; omega), h0, List.nil_append, ← ih, List.nil_append]
theorem lo_ins {te : Int} {t : List Force} (f : Force) (hf : f.tenant = te) (hp : t.Pairwise (fun x y => x.tenant < y.tenant)) : (loT te t ++ [f]) ++ hiT te t = insK Force.tenant f t := by
  subst hf
  induction t with
  | nil => rfl
  | cons x t ih =>
    rw [List.pairwise_cons] at hp
    have ih := ih hp.2
    unfold loT hiT at *
    unfold insK
    rcases Int.lt_trichotomy x.tenant f.tenant with h | h | h
    · rw [List.filter_cons_of_pos (by simpa using h), List.filter_cons_of_neg (by simp; omega), if_neg (by omega), if_neg (by omega), List.cons_append, List.cons_append, ih]
    · have h0 : t.filter (fun y => decide (y.tenant < f.tenant)) = [] := List.filter_eq_nil_iff.2 fun y hy => by have := hp.1 y hy; simp; omega
      have h1 : t.filter (fun y => decide (f.tenant < y.tenant)) = t := List.filter_eq_self.2 fun y hy => by have := hp.1 y hy; simp; omega
      rw [List.filter_cons_of_neg (by simp; omega), List.filter_cons_of_neg (by simp; omega), if_neg (by omega), if_pos h, h0, h1]; rfl
    · have h0 : t.filter (fun y => decide (y.tenant < f.tenant)) = [] := List.filter_eq_nil_iff.2 fun y hy => by have := hp.1 y hy; simp; omega
      have h1 : t.filter (fun y => decide (f.tenant < y.tenant)) = t := List.filter_eq_self.2 fun y hy => by have := hp.1 y hy; simp; omega
      rw [List.filter_cons_of_neg (by simp; omega), List.filter_cons_of_pos (by simpa using h), if_pos h, h0, h1]; rfl
theorem ow_find {te : Int} {t : List Force} (hp : t.Pairwise (fun x y => x.tenant < y.tenant)) : owT te t = findK Force.tenant t te := by
  unfold owT findK
  induction t with
  | nil => rfl
  | cons x t ih =>
    rw [List.pairwise_cons] at hp
    have ih := ih hp.2
    by_cases h : x.tenant = te
    · have h0 : t.filter (fun y => decide (y.tenant = te)) = [] := List.filter_eq_nil_iff.2 fun y hy => by have := hp.1 y hy; simp; omega
      rw [List.filter_cons_of_pos (by simpa using h), h0, List.find?_cons_of_pos (by simpa using h)]; rfl
    · rw [List.filter_cons_of_neg (by simpa using h), List.find?_cons_of_neg (by simpa using h), ih]
/-- How the document's walk through a table stands. -/
structure Wk (W0 w : World) (te : Int) (ts : List Force) (a1 : Option Addr) (c1 : Nat) (a2 : Option Addr) (c2 : Nat) : Prop where
  g1 : Gr w (W0.heap.size + 1) a1 c1 (loT te ts)
  g2 : Gr w (W0.heap.size + 1) a2 c2 (hiT te ts)
  ap : Apart a1 a2
  box : Box w W0.heap.size ((owT te ts).getD ⟨0, 0, 0, 0⟩).cells
  bel : Below W0.heap.size W0 w
  siz : W0.heap.size + 1 ≤ w.heap.size
theorem Wk.next {W0 w w' : World} {te : Int} {ts : List Force} {a1 : Option Addr} {c1 : Nat} {a2 : Option Addr} {c2 : Nat} (h : Wk W0 w te ts a1 c1 a2 c2) (hb : Below w.heap.size w w') : Wk W0 w' te ts a1 c1 a2 c2 :=
  ⟨h.g1.below hb, h.g2.below hb, h.ap, h.box.next (by simp) hb, h.bel.trans (hb.mono (by have := h.siz; omega)), Nat.le_trans h.siz hb.size⟩
end Go.Proofs.YtkboojpkkhiceaaDoor

/- What a table answers, the document's side. (printed by gen_hisrefdo.py) -/
namespace Go.Proofs.YtkboojpkkhiceaaDoor
open Go.ChangeShapes Go.WideShapes Go.ChangeAt Go.RowKit
set_option maxRecDepth 100000

set_option maxHeartbeats 16000000 in
theorem refdo_tab (t : List Force) (x : HCmd) (a : Option Addr) (n c : Nat) (w : World) (hn : t.length = n) (hl : n ≤ 1000) (hr : LRow layFce w a t) (hok : tabOk t = false) :
    Calls Tryd.prog 10 #[.slice a n c, x.agg] w (RetFA w t (Ans.err 2)) := by
  subst hn
  have hlm : t.length ≤ maxLen := le_maxLen (by omega)
  obtain ⟨k, a1, a2, te, ra, bu, a6, a7, a8, a9, a10, a11, ⟨la, ln, lc⟩⟩ := x
  have HBX : Hid (∀ w', Below ((w.alloc (.cells #[.int .i8 k, .int .i64 a1, .int .i64 a2, .int .i64 te, .int .i64 ra, .int .i64 bu, .int .i64 a6, .int .i64 a7, .int .i64 a8, .int .i64 a9, .int .i64 a10, .bool a11, .slice la ln lc] 26)).alloc (.cells #[.int .i64 0, .int .i64 0, .int .i64 0, .int .i64 0, .int .i64 0] 31)).heap.size ((w.alloc (.cells #[.int .i8 k, .int .i64 a1, .int .i64 a2, .int .i64 te, .int .i64 ra, .int .i64 bu, .int .i64 a6, .int .i64 a7, .int .i64 a8, .int .i64 a9, .int .i64 a10, .bool a11, .slice la ln lc] 26)).alloc (.cells #[.int .i64 0, .int .i64 0, .int .i64 0, .int .i64 0, .int .i64 0] 31)) w' → Box w' w.heap.size [.int .i8 k, .int .i64 a1, .int .i64 a2, .int .i64 te, .int .i64 ra, .int .i64 bu, .int .i64 a6, .int .i64 a7, .int .i64 a8, .int .i64 a9, .int .i64 a10, .bool a11, .slice la ln lc] ∧ Box w' (w.heap.size + 1) [.int .i64 0, .int .i64 0, .int .i64 0, .int .i64 0, .int .i64 0] ∧ w.heap.size + 2 ≤ w'.heap.size) := fun w' hb => ⟨Box.of_alloc (w := w) (mid_alloc' hb), Box.of_alloc1 (w := w) hb, by have := hb.size; simp at this; omega⟩
  have HOK := Lib.hid hok
  clear hok
  go_enter Tryd.func10, Tryd.ntmps10
  go_wp2_with (first
    | (go_at_call 27; ((with_reducible refine (reft_any t a t.length c _ rfl hlm (LRow.below hr (by repeat' (first | (with_reducible exact Below.refl _ _) | (with_reducible assumption) | (with_reducible refine Below.drew ?_) | (with_reducible refine Below.more ?_ _) | (with_reducible refine Below.put ?_ ?_ _) | (with_reducible refine Below.next ?_ (by with_reducible assumption)) | (with_reducible exact Nat.le_refl _) | (with_reducible refine Below.size' ?_) | omega)))).mono ?_); rw [HOK.out]; rintro e w3 ⟨rfl, hb3⟩; have HX3 := Lib.hid (HBX.out w3 hb3).1; have HZ3 := Lib.hid (HBX.out w3 hb3).2.1; have hz3 := (HBX.out w3 hb3).2.2; have HB3 : Hid (Below w.heap.size w w3) := Lib.hid (by repeat' (first | (with_reducible exact Below.refl _ _) | (with_reducible assumption) | (with_reducible refine Below.drew ?_) | (with_reducible refine Below.more ?_ _) | (with_reducible refine Below.put ?_ ?_ _) | (with_reducible refine Below.next ?_ (by with_reducible assumption)) | (with_reducible exact Nat.le_refl _) | (with_reducible refine Below.size' ?_) | omega)); have HR3 := Lib.hid (show LRow layFce w3 a t from LRow.below hr (by repeat' (first | (with_reducible exact Below.refl _ _) | (with_reducible assumption) | (with_reducible refine Below.drew ?_) | (with_reducible refine Below.more ?_ _) | (with_reducible refine Below.put ?_ ?_ _) | (with_reducible refine Below.next ?_ (by with_reducible assumption)) | (with_reducible exact Nat.le_refl _) | (with_reducible refine Below.size' ?_) | omega))); clear hb3))
    | (go_at_call 29; ((with_reducible refine (refcopied_any t _ t.length c w3 rfl hl HR3.out).mono ?_); rintro e w5 ⟨a5, c5, rfl, hle5, hno5, hr5, hnr5, hb5⟩; have HX5 := Lib.hid (HX3.out.next (by simp) hb5); have HZ5 := Lib.hid (HZ3.out.next (by simp) hb5); have HR5 := Lib.hid (LRow.below HR3.out hb5); have HB5 := Lib.hid (HB3.out.trans (hb5.mono HB3.out.size)); have hz5 : w.heap.size + 2 ≤ w5.heap.size := Nat.le_trans hz3 hb5.size; have HQ5 := Lib.hid hr5; have HN5 := Lib.hid hnr5; have hno5' := Lib.hid hno5; clear hr5 hnr5 hno5 hb5))
    | (refine wpList_store_whole layAns rfl (.tmp 5) (.tmp 21) rfl (w.heap.size + 1) (Ans.err 2) [.int .i64 0, .int .i64 0, .int .i64 0, .int .i64 0, .int .i64 0] rfl rfl HZ5.out rfl ?_; intro w9 hz9 hw9; have HZ9 := Lib.hid hz9; have HW9 := Lib.hid hw9; clear hz9 hw9))
  (try simp only [Exit.inBlock, Exit.then])
  refine bodyPost_ret (results_ans rfl _ _ (w.heap.size + 1) (Ans.err 2) rfl HZ9.out.range) rfl ?_
  exact ⟨a5, c5, rfl, hle5, hno5'.out, row_wrote HQ5.out HW9.out HN5.out (by omega), near_le HN5.out (by omega), HB5.out.trans (HW9.out.below _ (by omega))⟩
set_option maxHeartbeats 16000000 in
theorem refdo_asks (t : List Force) (x : HCmd) (a : Option Addr) (n c : Nat) (w : World) (hn : t.length = n) (hl : n ≤ 1000) (hr : LRow layFce w a t) (hok : tabOk t = true) (has : asksC x = false) :
    Calls Tryd.prog 10 #[.slice a n c, x.agg] w (RetFA w t (Ans.err 2)) := by
  subst hn
  have hlm : t.length ≤ maxLen := le_maxLen (by omega)
  obtain ⟨k, a1, a2, te, ra, bu, a6, a7, a8, a9, a10, a11, ⟨la, ln, lc⟩⟩ := x
  have HBX : Hid (∀ w', Below ((w.alloc (.cells #[.int .i8 k, .int .i64 a1, .int .i64 a2, .int .i64 te, .int .i64 ra, .int .i64 bu, .int .i64 a6, .int .i64 a7, .int .i64 a8, .int .i64 a9, .int .i64 a10, .bool a11, .slice la ln lc] 26)).alloc (.cells #[.int .i64 0, .int .i64 0, .int .i64 0, .int .i64 0, .int .i64 0] 31)).heap.size ((w.alloc (.cells #[.int .i8 k, .int .i64 a1, .int .i64 a2, .int .i64 te, .int .i64 ra, .int .i64 bu, .int .i64 a6, .int .i64 a7, .int .i64 a8, .int .i64 a9, .int .i64 a10, .bool a11, .slice la ln lc] 26)).alloc (.cells #[.int .i64 0, .int .i64 0, .int .i64 0, .int .i64 0, .int .i64 0] 31)) w' → Box w' w.heap.size [.int .i8 k, .int .i64 a1, .int .i64 a2, .int .i64 te, .int .i64 ra, .int .i64 bu, .int .i64 a6, .int .i64 a7, .int .i64 a8, .int .i64 a9, .int .i64 a10, .bool a11, .slice la ln lc] ∧ Box w' (w.heap.size + 1) [.int .i64 0, .int .i64 0, .int .i64 0, .int .i64 0, .int .i64 0] ∧ w.heap.size + 2 ≤ w'.heap.size) := fun w' hb => ⟨Box.of_alloc (w := w) (mid_alloc' hb), Box.of_alloc1 (w := w) hb, by have := hb.size; simp at this; omega⟩
  have HOK := Lib.hid hok
  have HAS : Hid (asksC ⟨k, a1, a2, te, ra, bu, a6, a7, a8, a9, a10, a11, ⟨la, ln, lc⟩⟩ = false) := has
  clear hok has
  go_enter Tryd.func10, Tryd.ntmps10
  go_wp2_with (first
    | (go_at_call 27; ((with_reducible refine (reft_any t a t.length c _ rfl hlm (LRow.below hr (by repeat' (first | (with_reducible exact Below.refl _ _) | (with_reducible assumption) | (with_reducible refine Below.drew ?_) | (with_reducible refine Below.more ?_ _) | (with_reducible refine Below.put ?_ ?_ _) | (with_reducible refine Below.next ?_ (by with_reducible assumption)) | (with_reducible exact Nat.le_refl _) | (with_reducible refine Below.size' ?_) | omega)))).mono ?_); rw [HOK.out]; rintro e w3 ⟨rfl, hb3⟩; have HX3 := Lib.hid (HBX.out w3 hb3).1; have HZ3 := Lib.hid (HBX.out w3 hb3).2.1; have hz3 := (HBX.out w3 hb3).2.2; have HB3 : Hid (Below w.heap.size w w3) := Lib.hid (by repeat' (first | (with_reducible exact Below.refl _ _) | (with_reducible assumption) | (with_reducible refine Below.drew ?_) | (with_reducible refine Below.more ?_ _) | (with_reducible refine Below.put ?_ ?_ _) | (with_reducible refine Below.next ?_ (by with_reducible assumption)) | (with_reducible exact Nat.le_refl _) | (with_reducible refine Below.size' ?_) | omega)); have HR3 := Lib.hid (show LRow layFce w3 a t from LRow.below hr (by repeat' (first | (with_reducible exact Below.refl _ _) | (with_reducible assumption) | (with_reducible refine Below.drew ?_) | (with_reducible refine Below.more ?_ _) | (with_reducible refine Below.put ?_ ?_ _) | (with_reducible refine Below.next ?_ (by with_reducible assumption)) | (with_reducible exact Nat.le_refl _) | (with_reducible refine Below.size' ?_) | omega))); clear hb3))
    | (refine wpList_strip (by rfl) ?_; refine wpList_load_as layHcm rfl (.tmp 3) rfl w.heap.size 0 rfl ⟨k, a1, a2, te, ra, bu, a6, a7, a8, a9, a10, a11, ⟨la, ln, lc⟩⟩ (HCmd.agg ⟨k, a1, a2, te, ra, bu, a6, a7, a8, a9, a10, a11, ⟨la, ln, lc⟩⟩) rfl HX3.out.range ?_)
    | (refine wpList_strip (by rfl) ?_; go_at_call 28; ((with_reducible refine (command_any ⟨k, a1, a2, te, ra, bu, a6, a7, a8, a9, a10, a11, ⟨la, ln, lc⟩⟩ w3).mono ?_); rw [HAS.out]; rintro e w4 ⟨rfl, hb4⟩; have HX4 := Lib.hid (HX3.out.next (by simp) hb4); have HZ4 := Lib.hid (HZ3.out.next (by simp) hb4); have HR4 := Lib.hid (LRow.below HR3.out hb4); have HB4 := Lib.hid (HB3.out.trans (hb4.mono HB3.out.size)); have hz4 : w.heap.size + 2 ≤ w4.heap.size := Nat.le_trans hz3 hb4.size; clear hb4 hz3))
    | (go_at_call 28; ((with_reducible refine (command_any ⟨k, a1, a2, te, ra, bu, a6, a7, a8, a9, a10, a11, ⟨la, ln, lc⟩⟩ w3).mono ?_); rw [HAS.out]; rintro e w4 ⟨rfl, hb4⟩; have HX4 := Lib.hid (HX3.out.next (by simp) hb4); have HZ4 := Lib.hid (HZ3.out.next (by simp) hb4); have HR4 := Lib.hid (LRow.below HR3.out hb4); have HB4 := Lib.hid (HB3.out.trans (hb4.mono HB3.out.size)); have hz4 : w.heap.size + 2 ≤ w4.heap.size := Nat.le_trans hz3 hb4.size; clear hb4 hz3))
    | (go_at_call 29; ((with_reducible refine (refcopied_any t _ t.length c w4 rfl hl HR4.out).mono ?_); rintro e w5 ⟨a5, c5, rfl, hle5, hno5, hr5, hnr5, hb5⟩; have HX5 := Lib.hid (HX4.out.next (by simp) hb5); have HZ5 := Lib.hid (HZ4.out.next (by simp) hb5); have HR5 := Lib.hid (LRow.below HR4.out hb5); have HB5 := Lib.hid (HB4.out.trans (hb5.mono HB4.out.size)); have hz5 : w.heap.size + 2 ≤ w5.heap.size := Nat.le_trans hz4 hb5.size; have HQ5 := Lib.hid hr5; have HN5 := Lib.hid hnr5; have hno5' := Lib.hid hno5; clear hr5 hnr5 hno5 hb5))
    | (refine wpList_store_whole layAns rfl (.tmp 5) (.tmp 21) rfl (w.heap.size + 1) (Ans.err 2) [.int .i64 0, .int .i64 0, .int .i64 0, .int .i64 0, .int .i64 0] rfl rfl HZ5.out rfl ?_; intro w9 hz9 hw9; have HZ9 := Lib.hid hz9; have HW9 := Lib.hid hw9; clear hz9 hw9))
  (try simp only [Exit.inBlock, Exit.then])
  refine bodyPost_ret (results_ans rfl _ _ (w.heap.size + 1) (Ans.err 2) rfl HZ9.out.range) rfl ?_
  exact ⟨a5, c5, rfl, hle5, hno5'.out, row_wrote HQ5.out HW9.out HN5.out (by omega), near_le HN5.out (by omega), HB5.out.trans (HW9.out.below _ (by omega))⟩
end Go.Proofs.YtkboojpkkhiceaaDoor
