/- How things of a type lie in memory, whatever the type: rows of them that are read, rows of the call's own that are written. -/
import Derived.Test.YtlckgnemmffdkaaBase
import Derived.Deep.MidRow
namespace Go.Proofs.Ytlckgnemmffdkaa
open Go.ChangeShapes Go.WideShapes Go.ChangeAt Go.RowKit
set_option maxRecDepth 100000

structure Lay (P : Program) (e : TypeId) (α : Type) where
  cells : α → List Value
  val : α → Value
  size : Nat
  bytes : Nat
  len : ∀ x, (cells x).length = size
  pos : 0 < size
  bpos : 0 < bytes
  one : ∀ x, ∀ u ∈ cells x, u.oneCell' = true
  info : (P.info? e).map (fun i => (i.zero.map fun z => (z.cells.size, z.cells.all (·.oneCell')), i.size, i.bytes)) = some (some (size, true), size, bytes)
  load : ∀ (w : World) b o x, w.rangeAt b o (cells x) → (Instr.loadAt e (.pointer (some ⟨b, o, none⟩))).run P w = .ok (val x) w
  store : ∀ (w : World) b o x, w.there b o size → (Instr.storeAt e (.pointer (some ⟨b, o, none⟩)) (val x)).run P w = .ok () (w.setCells b o (cells x))

theorem size_of_info {P : Program} {e : TypeId} {size bytes : Nat} (h : (P.info? e).map (fun i => (i.zero.map fun z => (z.cells.size, z.cells.all (·.oneCell')), i.size, i.bytes)) = some (some (size, true), size, bytes)) : (P.info? e).map (·.size) = some size := by
  cases hi : P.info? e with
  | none => rw [hi] at h; cases h
  | some i => rw [hi] at h; simp at h; simp [h.2.1]

/-- A struct's lay. -/
def Lay.struct {P : Program} {e : TypeId} {α : Type} (cells : α → List Value) (size bytes : Nat) (len : ∀ x, (cells x).length = size) (pos : 0 < size) (bpos : 0 < bytes) (one : ∀ x, ∀ u ∈ cells x, u.oneCell' = true)
    (info : (P.info? e).map (fun i => (i.zero.map fun z => (z.cells.size, z.cells.all (·.oneCell')), i.size, i.bytes)) = some (some (size, true), size, bytes)) (d : TypeDesc) (hu : P.underlying e = some d) (hd : d.isRow = true) : Lay P e α where
  cells := cells
  val x := .agg (cells x).toArray
  size := size
  bytes := bytes
  len := len
  pos := pos
  bpos := bpos
  one := one
  info := info
  load w b o x h := run_loadAt_mid w b o e (cells x) d h hu hd (by rw [len]; exact size_of_info info)
  store w b o x h := by
    have := run_storeAt_mid (P := P) w b o e (cells x).toArray (by simpa [len] using h) (by simpa [len] using size_of_info info) (all_oneCell_toArray (one x))
    simpa using this

section
variable {P : Program} {e : TypeId} {α : Type} (L : Lay P e α)

/-- Things lie in a row. -/
abbrev LRow (w : World) (a : Option Addr) (xs : List α) : Prop := Row w a (xs.flatMap L.cells)
theorem Lay.length (xs : List α) : (xs.flatMap L.cells).length = xs.length * L.size := flatMap_len L.len xs
theorem Lay.ones (xs : List α) : ∀ u ∈ xs.flatMap L.cells, u.oneCell' = true := by
  intro u hu
  obtain ⟨x, _, hx⟩ := List.mem_flatMap.1 hu
  exact L.one x u hx
theorem Lay.at (xs : List α) {k r : Nat} (hr : r < L.size) : (xs.flatMap L.cells)[k * L.size + r]? = (xs[k]?).bind fun x => (L.cells x)[r]? := flatMap_at L.len hr
theorem Lay.parts : ∃ i z, P.info? e = some i ∧ i.zero = some z ∧ i.size = L.size ∧ i.bytes = L.bytes ∧ z.cells.size = L.size ∧ z.cells.all (·.oneCell') = true := by
  have h := L.info
  cases hi : P.info? e with
  | none => rw [hi] at h; cases h
  | some i =>
    rw [hi] at h
    cases hz : i.zero with
    | none => simp [hz] at h
    | some z =>
      simp only [hz, Option.map_some, Option.some.injEq, Prod.mk.injEq] at h
      exact ⟨i, z, rfl, hz, h.2.1, h.2.2, h.1.1, h.1.2⟩
theorem Lay.elem {t : TypeId} (ht : P.underlying t = some (.slice e)) : Elem P t e L.size L.bytes where
  under := ht
  info := let ⟨i, z, h1, h2, h3, h4, h5, _⟩ := L.parts; ⟨i, z, h1, h2, h3, h4, h5⟩
  pos := L.pos
  bpos := L.bpos
variable {L}
theorem LRow.range {w : World} {a : Option Addr} {xs : List α} (h : LRow L w a xs) {k : Nat} (hk : k < xs.length) :
    ∃ b o, a = some ⟨b, o, none⟩ ∧ ∀ w', Below w.heap.size w w' → w'.rangeAt b (o + k * L.size) (L.cells xs[k]) := by
  have h0 : 0 < (xs.flatMap L.cells).length := by rw [L.length]; exact Nat.mul_pos (by omega) L.pos
  obtain ⟨b, o, rfl, hc⟩ := Row.at h h0
  have hlt := Row.lt (w := w) (b := b) (o := o) (.inr ⟨b, o, rfl, hc⟩) (List.length_pos_iff.1 h0)
  refine ⟨b, o, rfl, fun w' hb j v hv => ?_⟩
  have hj : j < L.size := by have := (List.getElem?_eq_some_iff.1 hv).1; rw [L.len] at this; exact this
  have h1 := L.at xs (k := k) hj
  rw [List.getElem?_eq_getElem hk, Option.bind_some, hv] at h1
  obtain ⟨h2, h3⟩ := List.getElem?_eq_some_iff.1 h1
  rw [hb.cell (p := ⟨b, o + k * L.size + j, none⟩) hlt, Nat.add_assoc, hc _ h2, h3]
theorem LRow.below {w w' : World} {a : Option Addr} {xs : List α} (h : LRow L w a xs) (hb : Below w.heap.size w w') : LRow L w' a xs := Row.below h hb
theorem LRow.take {w : World} {a : Option Addr} {xs : List α} (h : LRow L w a xs) (k : Nat) : LRow L w a (xs.take k) := by
  show Row _ _ _
  rw [← flatMap_take L.len]; exact Row.take h _
theorem LRow.drop {w : World} {b o : Nat} {xs : List α} (h : LRow L w (some ⟨b, o, none⟩) xs) (k : Nat) : LRow L w (some ⟨b, o + k * L.size, none⟩) (xs.drop k) := by
  show Row _ _ _
  rw [← flatMap_drop L.len]; exact Row.drop h _

theorem wpList_load_lay {ops : Array Oper} {rest : List Oper} {op : Oper} {a : Act} {w : World} {Q : Exit → Act → World → Prop} (L : Lay P e α) (hgd : op.guard = none) (x : Operand) (ho : op.op = .load e x)
    (b o : Nat) (hx : a.eval x = .pointer (some ⟨b, o, none⟩)) (y : α) (hc : w.rangeAt b o (L.cells y)) (h : wpList P ops Q rest (a.put op.dst (L.val y)) w) : wpList P ops Q (op :: rest) a w :=
  wpList_plain hgd fun K hK => by
    unfold Oper.wp execOp
    simp only [ho, hx, Sem.run_bind, Sem.run_pure, Result.andThen_ok, L.load w b o y hc]
    exact hK _ _ h
theorem wpList_store_lay {ops : Array Oper} {rest : List Oper} {op : Oper} {a : Act} {w : World} {Q : Exit → Act → World → Prop} (L : Lay P e α) (hgd : op.guard = none) (x y : Operand) (ho : op.op = .store e x y)
    (b o : Nat) (z : α) (hx : a.eval x = .pointer (some ⟨b, o, none⟩)) (hy : a.eval y = L.val z) (ht : w.there b o L.size) (h : wpList P ops Q rest (a.put op.dst undef) (w.setCells b o (L.cells z))) : wpList P ops Q (op :: rest) a w :=
  wpList_plain hgd fun K hK => by
    unfold Oper.wp execOp
    simp only [ho, hx, hy, Sem.run_bind, Sem.run_pure, Result.andThen_ok, L.store w b o z ht]
    exact hK _ _ h

/-- clear: whatever is there is zero then. -/
theorem wpList_clear_lay {ops : Array Oper} {rest : List Oper} {op : Oper} {a : Act} {w : World} {Q : Exit → Act → World → Prop} (L : Lay P e α) {t : TypeId} (ht : P.underlying t = some (.slice e)) (hgd : op.guard = none) (s : Operand)
    (ho : op.op = .call { callee := .builtin .clear, args := #[s], argTypes := #[t] }) (b o n c : Nat) (hs : a.eval s = .slice (some ⟨b, o, none⟩) n c) (hth : w.there b o (n * L.size))
    (h : ∀ zs : List Value, zs.length = n * L.size → wpList P ops Q rest (a.put op.dst (.tuple #[])) (w.setCells b o zs)) : wpList P ops Q (op :: rest) a w :=
  wpList_plain hgd fun K hK => by
    obtain ⟨i, z, h1, h2, h3, _, h5, h6⟩ := L.parts
    have hz : (zeroValue e).run P w = .ok z w := by simp [zeroValue, typeInfo, h1, h2]
    by_cases hn : n = 0
    · subst hn
      have hrun : (Builtin.clear_ #[t] op.type #[.slice (some ⟨b, o, none⟩) 0 c]).run P w = .ok (.tuple #[]) w := by
        simp [Builtin.clear_, run_underlying ht]
      unfold Oper.wp execOp
      simp only [ho, resolve, invoke, builtin, Sem.run_bind, Sem.run_pure, Result.andThen_ok, List.map_toArray, List.map_cons, List.map_nil, hs, hrun]
      exact hK _ _ (h [] (by simp))
    · have hst := run_storeCells_cells (P := P) b o (Builtin.zeroCells z.cells n).toList 0 w (fun j hj => by
        have := (hth j (by simp [Builtin.zeroCells, h5] at hj; exact hj)).1; simpa using this) (fun j hj => by
        have := (hth j (by simp [Builtin.zeroCells, h5] at hj; exact hj)).2; simpa using this) (fun v hv => by
        simp only [Builtin.zeroCells, Array.toList_map, List.mem_map, Array.mem_toList_iff] at hv
        obtain ⟨i, _, rfl⟩ := hv
        have hp := L.pos
        have hlt : i % z.cells.size < z.cells.size := Nat.mod_lt _ (by omega)
        rw [getElem!_pos z.cells _ hlt]
        exact (Array.all_eq_true_iff_forall_mem.1 h6) _ (Array.getElem_mem hlt))
      rw [Nat.add_zero] at hst
      have hrun : (Builtin.clear_ #[t] op.type #[.slice (some ⟨b, o, none⟩) n c]).run P w = .ok (.tuple #[]) (w.setCells b o (Builtin.zeroCells z.cells n).toList) := by
        cases n with
        | zero => exact absurd rfl hn
        | succ n => simp only [Builtin.clear_]; simp [run_underlying ht, hz, hst]
      unfold Oper.wp execOp
      simp only [ho, resolve, invoke, builtin, Sem.run_bind, Sem.run_pure, Result.andThen_ok, List.map_toArray, List.map_cons, List.map_nil, hs, hrun]
      exact hK _ _ (h _ (by simp [Builtin.zeroCells, h5]))

theorem there_new (w : World) (cs : Array Value) (t : TypeId) : (w.alloc (.cells cs t)).there w.heap.size 0 cs.size := fun j hj => by
  have h := heap_alloc_new w (.cells cs t)
  refine ⟨?_, ?_⟩
  · simp only [World.cell?, h, Option.isSome_none, Bool.false_eq_true, if_false]
    rw [Array.getElem?_eq_getElem (by omega)]; rfl
  · simp only [World.frozen?, h]
    simp
theorem range_put {w : World} {b o : Nat} (x : α) (h : w.there b o L.size) : (w.setCells b o (L.cells x)).rangeAt b o (L.cells x) := World.rangeAt_setCells_same w b o _ (by rw [L.len]; exact h)
theorem rangeAt_below {B : Nat} {w w' : World} {b o : Nat} {cs : List Value} (h : w.rangeAt b o cs) (hb : Below B w w') (hB : b < B) : w'.rangeAt b o cs := fun j v hv => (hb.cell (p := ⟨b, o + j, none⟩) hB).trans (h j v hv)
theorem there_below {B : Nat} {w w' : World} {b o n : Nat} (h : w.there b o n) (hb : Below B w w') (hB : b < B) : w'.there b o n := fun j hj => by
  rw [hb.cell (p := ⟨b, o + j, none⟩) hB, hb.frozen (p := ⟨b, o + j, none⟩) hB]; exact h j hj

/-! ### Rows of the call's own -/
/-- The things lie in block g from o on, may be written, and the block is one of the call's own, from B on. -/
def Mine (L : Lay P e α) (w : World) (B g o : Nat) (xs : List α) : Prop := B ≤ g ∧ w.rangeAt g o (xs.flatMap L.cells) ∧ w.there g o (xs.length * L.size)
theorem Mine.row {w : World} {B g o : Nat} {xs : List α} (h : Mine L w B g o xs) : LRow L w (some ⟨g, o, none⟩) xs :=
  .inr ⟨g, o, rfl, fun i hi => h.2.1 i _ (List.getElem?_eq_getElem hi)⟩
theorem Mine.base {w : World} {B g o : Nat} {xs : List α} (h : Mine L w B g o xs) : B ≤ g := h.1
theorem Below.setCells {B : Nat} {a : World} {g : Nat} (hg : B ≤ g) : ∀ (vs : List Value) (o : Nat) {w : World}, Below B a w → Below B a (w.setCells g o vs)
  | [], _, _, h => h
  | v :: vs, o, w, h => by
    rw [World.setCells]
    exact Below.setCells hg vs (o + 1) (h.setCell (p := ⟨g, o, none⟩) hg v)
theorem Mine.there {w : World} {B g o : Nat} {xs : List α} (h : Mine L w B g o xs) {k : Nat} (hk : k < xs.length) : w.there g (o + k * L.size) L.size := fun j hj => by
  have h1 : k * L.size + j < xs.length * L.size := by
    have := Nat.mul_le_mul_right L.size (Nat.succ_le_of_lt hk)
    rw [Nat.succ_mul] at this; omega
  have := h.2.2 (k * L.size + j) h1
  rw [Nat.add_assoc]; exact this
theorem Mine.range {w : World} {B g o : Nat} {xs : List α} (h : Mine L w B g o xs) {k : Nat} (hk : k < xs.length) : w.rangeAt g (o + k * L.size) (L.cells xs[k]) := fun j v hv => by
  have hj : j < L.size := by have := (List.getElem?_eq_some_iff.1 hv).1; rw [L.len] at this; exact this
  have h1 := L.at xs (k := k) hj
  rw [List.getElem?_eq_getElem hk, Option.bind_some, hv] at h1
  have := h.2.1 _ _ h1
  rw [Nat.add_assoc]; exact this
theorem Mine.set {w : World} {B g o : Nat} {xs : List α} (h : Mine L w B g o xs) {k : Nat} (hk : k < xs.length) (x : α) : Mine L (w.setCells g (o + k * L.size) (L.cells x)) B g o (xs.set k x) := by
  refine ⟨h.1, fun j v hv => ?_, by rw [List.length_set]; exact World.there_setCells h.2.2 _ _ _⟩
  have hj : j < (xs.set k x).length * L.size := by have := (List.getElem?_eq_some_iff.1 hv).1; rw [L.length] at this; exact this
  have hp := L.pos
  have hr : j % L.size < L.size := Nat.mod_lt _ hp
  have hjj : j / L.size * L.size + j % L.size = j := by rw [Nat.mul_comm]; exact Nat.div_add_mod j L.size
  have h1 := L.at (xs.set k x) (k := j / L.size) hr
  rw [hjj, hv] at h1
  by_cases hk2 : j / L.size = k
  · rw [hk2, List.getElem?_set_self hk, Option.bind_some] at h1
    have hlen : j % L.size < (L.cells x).length := by rw [L.len]; exact hr
    have h2 := World.cell?_setCells_in g (L.cells x) (o + k * L.size) w (fun i hi => (h.there hk i (by rw [L.len] at hi; exact hi)).1) _ hlen
    have h3 : o + j = o + k * L.size + j % L.size := by rw [← hk2]; omega
    rw [h3, h2]
    rw [List.getElem?_eq_getElem hlen] at h1
    exact h1.symm
  · rw [List.getElem?_set_ne (fun e => hk2 e.symm)] at h1
    have h4 := L.at xs (k := j / L.size) hr
    rw [hjj, ← h1] at h4
    have h5 := h.2.1 j v h4
    rw [World.cell?_setCells_out g (L.cells x) (o + k * L.size) w ⟨g, o + j, none⟩ (fun _ _ => ?_)]
    · exact h5
    · rw [L.len]
      rcases Nat.lt_or_gt_of_ne hk2 with h6 | h6
      · left
        have := Nat.mul_le_mul_right L.size (Nat.succ_le_of_lt h6)
        rw [Nat.succ_mul] at this
        show o + j < o + k * L.size
        omega
      · right
        have := Nat.mul_le_mul_right L.size (Nat.succ_le_of_lt h6)
        rw [Nat.succ_mul] at this
        show o + k * L.size + L.size ≤ o + j
        omega
theorem Mine.take {w : World} {B g o : Nat} {xs : List α} (h : Mine L w B g o xs) (k : Nat) : Mine L w B g o (xs.take k) := by
  refine ⟨h.1, fun j v hv => ?_, fun j hj => h.2.2 j (Nat.lt_of_lt_of_le hj (Nat.mul_le_mul_right _ (by simp; omega)))⟩
  rw [← flatMap_take L.len, List.getElem?_take] at hv
  split at hv
  · exact h.2.1 j v hv
  · cases hv
theorem Mine.below {w w' : World} {B g o B' : Nat} {xs : List α} (h : Mine L w B g o xs) (hb : Below B' w w') (hg : g < B') : Mine L w' B g o xs :=
  ⟨h.1, fun j v hv => (hb.cell (p := ⟨g, o + j, none⟩) hg).trans (h.2.1 j v hv), fun j hj => by
    rw [hb.cell (p := ⟨g, o + j, none⟩) hg, hb.frozen (p := ⟨g, o + j, none⟩) hg]; exact h.2.2 j hj⟩
theorem Mine.lt {w : World} {B g o : Nat} {xs : List α} (h : Mine L w B g o xs) (h0 : xs ≠ []) : g < w.heap.size :=
  Row.lt h.row (by intro h1; have := congrArg List.length h1; rw [L.length, List.length_nil, Nat.mul_eq_zero] at this; have hp := L.pos; rcases this with h | h; exact h0 (List.eq_nil_of_length_eq_zero h); omega)
theorem Mine.of_own {w : World} {B : Nat} {g n c : Nat} {xs : List α} (h : w.ownsRow B e L.size (.slice (some ⟨g, 0, none⟩) n c) n (xs.flatMap L.cells)) : Mine L w B g 0 xs := by
  obtain ⟨hl, h⟩ := h
  rcases h with ⟨hv, _⟩ | ⟨g', cap, cur, hv, hB, hg, hnc, hm, hs, ht⟩
  · cases hv
  · simp only [Value.slice.injEq, Option.some.injEq, Addr.mk.injEq, and_true] at hv
    obtain ⟨rfl, _, rfl⟩ := hv
    have hxs : xs.length * L.size = n * L.size := by rw [← L.length]; exact hl
    have h2 : n * L.size ≤ cur.size := by rw [hs]; exact Nat.mul_le_mul_right _ hnc
    have hcell : ∀ j, w.cell? ⟨g, 0 + j, none⟩ = cur[j]? := fun j => by simp [World.cell?, hg]
    refine ⟨hB, fun j v hv => ?_, fun j hj => ?_⟩
    · rw [hcell]
      rw [← ht, List.getElem?_take] at hv
      split at hv
      · simpa using hv
      · cases hv
    · rw [hcell, Array.getElem?_eq_getElem (by omega)]
      exact ⟨rfl, by simp [World.frozen?, hg]⟩
theorem setCells_size (b : Nat) : ∀ (vs : List Value) (o : Nat) (w : World), (w.setCells b o vs).heap.size = w.heap.size
  | [], _, _ => rfl
  | v :: vs, o, w => by rw [World.setCells, setCells_size b vs]; simp
/-- A thing put into a new variable of its own. -/
theorem wpList_store_box {ops : Array Oper} {rest : List Oper} {op : Oper} {a : Act} {w : World} {cs : Array Value} {t : TypeId} {Q : Exit → Act → World → Prop} (L : Lay P e α) (hgd : op.guard = none) (x y : Operand) (ho : op.op = .store e x y)
    (z : α) (hx : a.eval x = .pointer (some ⟨w.heap.size, 0, none⟩)) (hy : a.eval y = L.val z) (ht : cs.size = L.size)
    (h : ∀ w', w'.rangeAt w.heap.size 0 (L.cells z) → w'.there w.heap.size 0 L.size → Below w.heap.size w w' → w'.heap.size = w.heap.size + 1 → wpList P ops Q rest (a.put op.dst undef) w') : wpList P ops Q (op :: rest) a (w.alloc (.cells cs t)) := by
  have hth : (w.alloc (.cells cs t)).there w.heap.size 0 L.size := by rw [← ht]; exact there_new w cs t
  refine wpList_store_lay L hgd x y ho w.heap.size 0 z hx hy hth (h _ (range_put z hth) (World.there_setCells hth _ _ _) (Below.setCells (Nat.le_refl _) _ _ ((Below.refl _ _).alloc (Nat.le_refl _) _)) (by rw [setCells_size]; simp))
/-- A thing put into its place in a row of the call's own. -/
theorem wpList_store_mine {ops : Array Oper} {rest : List Oper} {op : Oper} {a : Act} {w : World} {Q : Exit → Act → World → Prop} (L : Lay P e α) (hgd : op.guard = none) (x y : Operand) (ho : op.op = .store e x y)
    {B g o : Nat} {xs : List α} (hm : Mine L w B g o xs) (k : Nat) (hk : k < xs.length) (z : α) (hx : a.eval x = .pointer (some ⟨g, o + k * L.size, none⟩)) (hy : a.eval y = L.val z)
    (h : ∀ w', Mine L w' B g o (xs.set k z) → (∀ B', B' ≤ g → Below B' w w') → w'.heap.size = w.heap.size → wpList P ops Q rest (a.put op.dst undef) w') : wpList P ops Q (op :: rest) a w :=
  wpList_store_lay L hgd x y ho g (o + k * L.size) z hx hy (hm.there hk) (h _ (hm.set hk z) (fun _ hB => Below.setCells hB _ _ (Below.refl _ _)) (setCells_size _ _ _ _))
/-- What lies behind a row's first things is struck. -/
theorem wpList_clear_mine {ops : Array Oper} {rest : List Oper} {op : Oper} {a : Act} {w : World} {Q : Exit → Act → World → Prop} (L : Lay P e α) {t : TypeId} (ht : P.underlying t = some (.slice e)) (hgd : op.guard = none) (s : Operand)
    (ho : op.op = .call { callee := .builtin .clear, args := #[s], argTypes := #[t] }) {B g o : Nat} {xs : List α} (hm : Mine L w B g o xs) (k : Nat) (hk : k ≤ xs.length) (n c : Nat) (hn : n + k = xs.length) (hs : a.eval s = .slice (some ⟨g, o + k * L.size, none⟩) n c)
    (h : ∀ w', Mine L w' B g o (xs.take k) → (∀ B', B' ≤ g → Below B' w w') → w'.heap.size = w.heap.size → wpList P ops Q rest (a.put op.dst (.tuple #[])) w') : wpList P ops Q (op :: rest) a w := by
  have hth : w.there g (o + k * L.size) (n * L.size) := fun j hj => by
    have := hm.2.2 (k * L.size + j) (by rw [← hn, Nat.add_mul]; omega)
    rw [Nat.add_assoc]; exact this
  refine wpList_clear_lay L ht hgd s ho g (o + k * L.size) n c hs hth fun zs _ => h _ ?_ (fun _ hB => Below.setCells hB _ _ (Below.refl _ _)) (setCells_size _ _ _ _)
  have h1 := hm.take k
  refine ⟨h1.1, World.rangeAt_setCells_apart h1.2.1 _ _ _ (.inr (.inl ?_)), World.there_setCells h1.2.2 _ _ _⟩
  rw [L.length, List.length_take, Nat.min_eq_left hk]; omega
theorem own_head {w : World} {B : Nat} {t : TypeId} {size : Nat} {a : Option Addr} {n c : Nat} {xs : List Value} (h : w.ownsRow B t size (.slice a n c) n xs) (h0 : xs ≠ []) : ∃ g, a = some ⟨g, 0, none⟩ ∧ B ≤ g ∧ c ≤ maxLen := by
  rcases h.2 with ⟨_, h1⟩ | ⟨g, cap, cur, hv, hB, hg, hnc, hm, hs, ht⟩
  · exact absurd (List.eq_nil_of_length_eq_zero (by rw [h.1, h1, Nat.zero_mul])) h0
  · simp only [Value.slice.injEq] at hv
    obtain ⟨rfl, _, rfl⟩ := hv
    exact ⟨g, rfl, hB, hm⟩
theorem Mine.mono {w : World} {B B' g o : Nat} {xs : List α} (h : Mine L w B g o xs) (hB : B' ≤ B) : Mine L w B' g o xs := ⟨Nat.le_trans hB h.1, h.2⟩
end
end Go.Proofs.Ytlckgnemmffdkaa
