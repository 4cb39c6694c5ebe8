/- Variables of the call's own; one block turned, all others stand (printed by gen_bx.py out of other texts). -/
import Derived.Test.YtlckgnemmffdkaaLay2
namespace Go.Proofs.Ytlckgnemmffdkaa
open Go.ChangeShapes Go.WideShapes Go.ChangeAt Go.RowKit
set_option maxRecDepth 100000

theorem setCells_keep (g : Nat) : ∀ (vs : List Value) (o : Nat) (w : World) (k : Nat), k ≠ g → (w.setCells g o vs).heap[k]? = w.heap[k]?
  | [], _, _, _, _ => rfl
  | v :: vs, o, w, k, h => by
    rw [World.setCells, setCells_keep g vs (o + 1) _ k h]
    exact Below.heap_setCell _ _ _ _ (fun e => h e)
theorem mid_alloc' {w w' : World} {o : Obj} (hb : Below (w.alloc o).heap.size (w.alloc o) w') : Below w.heap.size w w' := ((Below.refl w.heap.size w).alloc (Nat.le_refl _) o).trans (hb.mono (by simp))
/-- An operation whose guard lets it be done. -/
theorem wpList_strip {P : Program} {ops : Array Oper} {Q : Exit → Act → World → Prop} {a : Act} {w : World} {rest : List Oper} {o : Oper}
    (hw : Region.wanted o (yielded ops a.tmps) = true) (h : wpList P ops Q ({ o with guard := none } :: rest) a w) : wpList P ops Q (o :: rest) a w := by
  unfold wpList at h ⊢
  rw [if_pos hw]
  rw [if_pos (by rfl)] at h
  exact h
/-- Of the blocks that stood, the one alone may have turned. -/
structure Only (g : Nat) (w w' : World) : Prop where
  os : w'.os = w.os
  tape : w'.tape = w.tape
  output : w'.output = w.output
  size : w.heap.size ≤ w'.heap.size
  block : ∀ k, k < w.heap.size → k ≠ g → w'.heap[k]? = w.heap[k]?
theorem Only.refl (g : Nat) (w : World) : Only g w w := ⟨rfl, rfl, rfl, Nat.le_refl _, fun _ _ _ => rfl⟩
theorem Only.trans {g : Nat} {w w' w'' : World} (h : Only g w w') (h2 : Only g w' w'') : Only g w w'' :=
  ⟨h2.os.trans h.os, h2.tape.trans h.tape, h2.output.trans h.output, Nat.le_trans h.size h2.size, fun k h1 h3 => (h2.block k (Nat.lt_of_lt_of_le h1 h.size) h3).trans (h.block k h1 h3)⟩
theorem Only.of {g : Nat} {w w' : World} (h : Below w.heap.size w w') : Only g w w' := ⟨h.os, h.tape, h.output, h.size, fun k hk _ => h.block k hk⟩
theorem Only.next {g : Nat} {w w' w'' : World} (h : Only g w w') (h2 : Below w'.heap.size w' w'') : Only g w w'' := h.trans (.of h2)
theorem Only.put {g : Nat} {w w' w'' : World} (h : Only g w w') (h2 : ∀ B, B ≤ g → Below B w' w'') (hk : ∀ k, k ≠ g → w''.heap[k]? = w'.heap[k]?) : Only g w w'' :=
  h.trans ⟨(h2 0 (Nat.zero_le _)).os, (h2 0 (Nat.zero_le _)).tape, (h2 0 (Nat.zero_le _)).output, (h2 0 (Nat.zero_le _)).size, fun k _ hne => hk k hne⟩
theorem Only.below {g : Nat} {w w' : World} (h : Only g w w') {B : Nat} (hB : B ≤ g) (hs : B ≤ w.heap.size) : Below B w w' := ⟨h.os, h.tape, h.output, h.size, fun k hk => h.block k (by omega) (by omega)⟩
/-- The blocks from B on, below E, stand as they stood. -/
structure Mid (B E : Nat) (w w' : World) : Prop where
  size : w.heap.size ≤ w'.heap.size
  keep : ∀ k, B ≤ k → k < E → w'.heap[k]? = w.heap[k]?
theorem Mid.refl (B E : Nat) (w : World) : Mid B E w w := ⟨Nat.le_refl _, fun _ _ _ => rfl⟩
theorem Mid.trans {B E : Nat} {w w' w'' : World} (h : Mid B E w w') (h2 : Mid B E w' w'') : Mid B E w w'' := ⟨Nat.le_trans h.size h2.size, fun k h1 h3 => (h2.keep k h1 h3).trans (h.keep k h1 h3)⟩
theorem Mid.below {B E E' : Nat} {w w' : World} (h : Below E' w w') (hE : E ≤ E') : Mid B E w w' := ⟨h.size, fun k _ h1 => h.block k (by omega)⟩
theorem Mid.next {B E E' : Nat} {w w' w'' : World} (h : Mid B E w w') (h2 : Below E' w' w'') (hE : E ≤ E') : Mid B E w w'' := h.trans (.below h2 hE)
theorem Mid.setCell {B E : Nat} {w w' : World} (h : Mid B E w w') (p : Addr) (v : Value) (hp : p.block < B ∨ E ≤ p.block) : Mid B E w (w'.setCell p v) :=
  h.trans ⟨by simp, fun k h1 h2 => Below.heap_setCell _ _ _ _ (by omega)⟩
theorem Mid.other {B E : Nat} {w w' w'' : World} {g : Nat} (h : Mid B E w w') (hk : ∀ k, k ≠ g → w''.heap[k]? = w'.heap[k]?) (hs : w''.heap.size = w'.heap.size) (hg : g < B ∨ E ≤ g) : Mid B E w w'' :=
  h.trans ⟨by omega, fun k h1 h2 => hk k (by omega)⟩
theorem Mid.drew {B E : Nat} {w w' : World} (h : Mid B E w w') : Mid B E w w'.drew := ⟨h.size, h.keep⟩
theorem Mid.alloc {B E : Nat} {w w' : World} (h : Mid B E w w') (hE : E ≤ w'.heap.size) (o : Obj) : Mid B E w (w'.alloc o) := h.trans (.below ((Below.refl _ _).alloc (Nat.le_refl _) o) hE)
theorem Mid.up {B B' E : Nat} {w w' : World} (h : Mid B E w w') (hB : B ≤ B') : Mid B' E w w' := ⟨h.size, fun k h1 h2 => h.keep k (by omega) h2⟩

theorem own_mid {w w' : World} {B E B0 : Nat} {e : TypeId} {size : Nat} {v : Value} {n : Nat} {xs : List Value} (h : w.ownsRow B0 e size v n xs) (hm : Mid B E w w') (hB : B ≤ B0) (hE : w.heap.size ≤ E) : w'.ownsRow B0 e size v n xs := by
  obtain ⟨h1, h2⟩ := h
  refine ⟨h1, ?_⟩
  rcases h2 with h2 | ⟨g, cap, cur, h3, h4, h5, h6⟩
  · exact .inl h2
  · refine .inr ⟨g, cap, cur, h3, h4, ?_, h6⟩
    rw [hm.keep g (by omega) (by have := (Array.getElem?_eq_some_iff.1 h5).1; omega)]; exact h5
theorem row_mid {w w' : World} {B E : Nat} {a : Option Addr} {xs : List Value} (h : Row w a xs) (hm : Mid B E w w') (hn : Near B none a) (hE : w.heap.size ≤ E) : Row w' a xs := by
  by_cases h0 : xs = []
  · exact .inl h0
  · rcases h with h | ⟨b, o, rfl, hc⟩
    · exact absurd h h0
    · have hlt := Row.lt (.inr ⟨b, o, rfl, hc⟩) h0
      have hb : B ≤ b := by
        rcases hn b o none rfl with h1 | ⟨_, _, h1⟩
        · exact h1
        · cases h1
      exact .inr ⟨b, o, rfl, fun i hi => by rw [World.cell?_of_block (w := w) (hm.keep b hb (by omega))]; exact hc i hi⟩
theorem can_mid {w w' : World} {B E B0 : Nat} {e : TypeId} {size : Nat} {a : Option Addr} {n c : Nat} {xs : List Value} (h : Can w B0 e size a n c xs) (hm : Mid B E w w') (hn : Near B none a) (hB : B ≤ B0) (hE : w.heap.size ≤ E) : Can w' B0 e size a n c xs :=
  ⟨h.1, h.2.1, h.2.2.imp (fun ⟨h1, h2⟩ => ⟨h1, row_mid h2 hm hn hE⟩) (fun h => own_mid h hm hB hE)⟩

/-- A thing put into a variable: the world behind it is not looked into; other blocks stand. -/
theorem wpList_store_keep {P : Program} {e : TypeId} {α : Type} {ops : Array Oper} {rest : List Oper} {op : Oper} {a : Act} {w : World} {Q : Exit → Act → World → Prop} (L : Lay P e α) (hgd : op.guard = none) (x y : Operand) (ho : op.op = .store e x y)
    (b o : Nat) (z : α) (hx : a.eval x = .pointer (some ⟨b, o, none⟩)) (hy : a.eval y = L.val z) (ht : w.there b o L.size)
    (h : ∀ w', w'.rangeAt b o (L.cells z) → w'.there b o L.size → (∀ B, B ≤ b → Below B w w') → w'.heap.size = w.heap.size → (∀ k, k ≠ b → w'.heap[k]? = w.heap[k]?) → wpList P ops Q rest (a.put op.dst undef) w') : wpList P ops Q (op :: rest) a w :=
  wpList_store_lay L hgd x y ho b o z hx hy ht (h _ (range_put z ht) (World.there_setCells ht _ _ _) (fun _ hB => Below.setCells hB _ _ (Below.refl _ _)) (setCells_size _ _ _ _) (fun k hk => setCells_keep b _ _ _ k hk))
structure Box (w : World) (g : Nat) (cs : List Value) : Prop where
  range : w.rangeAt g 0 cs
  there : w.there g 0 cs.length
theorem Box.cell {w : World} {g : Nat} {cs : List Value} (h : Box w g cs) {j : Nat} {v : Value} (hj : cs[j]? = some v) : w.cell? ⟨g, j, none⟩ = some v := by
  have := h.range j v hj
  rw [Nat.zero_add] at this; exact this
theorem Box.froz {w : World} {g : Nat} {cs : List Value} (h : Box w g cs) {j : Nat} (hj : j < cs.length) : w.frozen? ⟨g, j, none⟩ = false := by
  have := (h.there j hj).2
  rw [Nat.zero_add] at this; exact this
theorem Box.of_alloc {w w' : World} {cs : List Value} {t : TypeId} (hb : Below (w.alloc (.cells cs.toArray t)).heap.size (w.alloc (.cells cs.toArray t)) w') : Box w' w.heap.size cs :=
  ⟨box_range hb, by have := box_there hb; simpa using this⟩
theorem Box.of_alloc1 {w w' : World} {o : Obj} {cs : List Value} {t : TypeId} (hb : Below ((w.alloc o).alloc (.cells cs.toArray t)).heap.size ((w.alloc o).alloc (.cells cs.toArray t)) w') : Box w' (w.heap.size + 1) cs := by
  have := Box.of_alloc hb
  rw [World.size_alloc] at this; exact this
theorem Box.of_alloc2 {w w' : World} {o o' : Obj} {cs : List Value} {t : TypeId} (hb : Below (((w.alloc o).alloc o').alloc (.cells cs.toArray t)).heap.size (((w.alloc o).alloc o').alloc (.cells cs.toArray t)) w') : Box w' (w.heap.size + 1 + 1) cs := by
  have := Box.of_alloc hb
  rw [World.size_alloc, World.size_alloc] at this; exact this
theorem Box.lt {w : World} {g : Nat} {cs : List Value} (h : Box w g cs) (h0 : 0 < cs.length) : g < w.heap.size := World.block_lt_of_cell? w _ (h.cell (List.getElem?_eq_getElem h0))
theorem Box.block {w w' : World} {g : Nat} {cs : List Value} (h : Box w g cs) (hg : w'.heap[g]? = w.heap[g]?) : Box w' g cs :=
  ⟨fun j v hj => by rw [World.cell?_of_block (w := w) hg]; exact h.range j v hj, fun j hj => by
    have := h.there j hj
    refine ⟨by rw [World.cell?_of_block (w := w) hg]; exact this.1, ?_⟩
    have h2 := this.2
    simp only [World.frozen?] at h2 ⊢
    rw [hg]; exact h2⟩
theorem Box.below {w w' : World} {g : Nat} {cs : List Value} {B : Nat} (h : Box w g cs) (hb : Below B w w') (hg : g < B) : Box w' g cs := h.block (hb.block g hg)
theorem Box.next {w w' : World} {g : Nat} {cs : List Value} (h : Box w g cs) (h0 : 0 < cs.length) (hb : Below w.heap.size w w') : Box w' g cs := h.below hb (h.lt h0)
theorem Box.drew {w : World} {g : Nat} {cs : List Value} (h : Box w g cs) : Box w.drew g cs := h.block rfl
theorem Box.set {w : World} {g i : Nat} {cs : List Value} (h : Box w g cs) (hi : i < cs.length) (v : Value) : Box (w.setCell ⟨g, i, none⟩ v) g (cs.set i v) := by
  have hci := h.cell (List.getElem?_eq_getElem hi)
  refine ⟨fun j u hj => ?_, fun j hj => ?_⟩
  · rw [Nat.zero_add]
    by_cases e : i = j
    · subst e
      rw [List.getElem?_set_self hi] at hj
      rw [← hj]; exact World.cell?_setCell_same _ _ _ hci
    · rw [List.getElem?_set_ne e] at hj
      rw [World.cell?_setCell_other w _ _ v (fun h => e (congrArg Addr.off h))]
      exact h.cell hj
  · rw [List.length_set] at hj
    refine ⟨?_, ?_⟩
    · rw [Nat.zero_add]
      by_cases e : i = j
      · subst e; rw [World.cell?_setCell_same _ _ _ hci]; rfl
      · rw [World.cell?_setCell_other w _ _ v (fun h => e (congrArg Addr.off h)), h.cell (List.getElem?_eq_getElem hj)]; rfl
    · rw [World.frozen?_setCell]; exact (h.there j hj).2
theorem Box.far {w : World} {g : Nat} {cs : List Value} (h : Box w g cs) {p : Addr} (hp : p.block ≠ g) (v : Value) : Box (w.setCell p v) g cs := h.block (Below.heap_setCell _ _ _ _ (fun e => hp e.symm))

section
variable {P : Program} {e : TypeId} {α : Type}
/-- What a write into the block g alone does to a world. -/
structure Wrote (g : Nat) (w w' : World) : Prop where
  below : ∀ B, B ≤ g → Below B w w'
  size : w'.heap.size = w.heap.size
  keep : ∀ k, k ≠ g → w'.heap[k]? = w.heap[k]?
theorem Box.wrote {w w' : World} {g g' : Nat} {cs : List Value} (h : Box w g cs) (hw : Wrote g' w w') (hne : g ≠ g') : Box w' g cs := h.block (hw.keep g hne)
theorem Mid.wrote {B E g : Nat} {w w' w'' : World} (h : Mid B E w w') (hw : Wrote g w' w'') (hg : g < B ∨ E ≤ g) : Mid B E w w'' := h.other hw.keep hw.size hg
/-- A thing put into a variable of the call's own. -/
theorem wpList_store_whole {ops : Array Oper} {rest : List Oper} {op : Oper} {a : Act} {w : World} {Q : Exit → Act → World → Prop} (L : Lay P e α) (hgd : op.guard = none) (x y : Operand) (ho : op.op = .store e x y)
    (g : Nat) (z : α) (cs : List Value) (hx : a.eval x = .pointer (some ⟨g, 0, none⟩)) (hy : a.eval y = L.val z) (hb : Box w g cs) (hl : cs.length = L.size)
    (h : ∀ w', Box w' g (L.cells z) → Wrote g w w' → wpList P ops Q rest (a.put op.dst undef) w') : wpList P ops Q (op :: rest) a w :=
  wpList_store_keep L hgd x y ho g 0 z hx hy (by rw [← hl]; exact hb.there) (fun w' h1 h2 h3 h4 h5 => h w' ⟨h1, by rw [L.len]; exact h2⟩ ⟨h3, h4, h5⟩)
/-- A one-cell value put into a field of a variable of the call's own. -/
theorem wpList_store_field {ops : Array Oper} {rest : List Oper} {op : Oper} {a : Act} {w : World} {Q : Exit → Act → World → Prop} {t : TypeId} (hgd : op.guard = none) (x y : Operand) (ho : op.op = .store t x y) (hi : (P.info? t).map (·.size) = some 1)
    (g i : Nat) (cs : List Value) (v : Value) (hx : a.eval x = .pointer (some ⟨g, i, none⟩)) (hy : a.eval y = v) (hv : v.cells = #[v]) (h1 : v.oneCell' = true) (hb : Box w g cs) (hlt : i < cs.length)
    (h : ∀ w', Box w' g (cs.set i v) → Wrote g w w' → wpList P ops Q rest (a.put op.dst undef) w') : wpList P ops Q (op :: rest) a w :=
  wpList_plain hgd fun K hK => by
    have hth : w.there g i 1 := fun j hj => by
      have := hb.there i hlt
      obtain rfl : j = 0 := by omega
      rw [Nat.zero_add] at this; exact this
    have hrun : (storeVar t ⟨g, i, none⟩ v).run P w = .ok () (w.setCell ⟨g, i, none⟩ v) := by
      have := run_storeCells_cells (P := P) g i [v] 0 w (fun j hj => by simpa using (hth j (by simpa using hj)).1) (fun j hj => by simpa using (hth j (by simpa using hj)).2) (fun u hu => by simp at hu; subst hu; exact h1)
      cases hq : P.info? t with
      | none => simp [hq] at hi
      | some q =>
        have hs : q.size = 1 := by simpa [hq] using hi
        simp only [Nat.add_zero] at this
        simp [storeVar, sizeOf, typeInfo, hq, hv, hs, this, World.setCells]
    unfold Oper.wp execOp
    simp only [ho, hx, hy, Instr.storeAt, Instr.sureAddr, Sem.run_bind, Sem.run_pure, Result.andThen_ok, hrun]
    exact hK _ _ (h _ (hb.set hlt v) ⟨fun B hB => (Below.refl B w).setCell (p := ⟨g, i, none⟩) hB v, by simp, fun k hk => Below.heap_setCell _ _ _ _ (fun e => hk e)⟩)
end
end Go.Proofs.Ytlckgnemmffdkaa
