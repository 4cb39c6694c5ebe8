/- Blocks of the call's own known whole: copies into them; a new row out of an old one's beginning. -/
import Derived.Test.YtlckgnemmffdkaaLay
import Derived.Laws.Externs
import Derived.Lib.Overlaps
import Derived.Lib.AppendZerosOnto
namespace Go.Proofs.Ytlckgnemmffdkaa
open Go.ChangeShapes Go.WideShapes Go.ChangeAt Go.RowKit
set_option maxRecDepth 100000

section
variable {P : Program} {e : TypeId} {α : Type}

theorem run_copy_whole (L : Lay P e α) {t : TypeId} (ht : P.underlying t = some (.slice e)) (ty : TypeId) (w : World) (g o : Nat) (A M R cs : List Value) (te : TypeId) (hg : w.heap[g]? = some (.cells (A ++ (M ++ R)).toArray te (0, 0))) (ho : A.length = o)
    (hM : M.length = cs.length) (h1 : ∀ u ∈ cs, u.oneCell' = true) (dn dc sn sc m : Nat) (sp : Addr) (hm : Nat.min sn dn = m) (hl : cs.length = m * L.size) (hsrc : ∀ j v, cs[j]? = some v → w.cell? (sp.add j) = some v) :
    (Builtin.copy_ #[t, t] ty #[.slice (some ⟨g, o, none⟩) dn dc, .slice (some sp) sn sc]).run P w = .ok (goInt m) (w.setRow g (A ++ (cs ++ R)).toArray) := by
  obtain ⟨i, z, h2, _, h3, _⟩ := L.parts
  have hsz : (sizeOf e).run P w = .ok L.size w := by simp [sizeOf, typeInfo, h2, h3]
  have hfc := run_firstCells_some (P := P) (w := w) L.size m sp sn sc cs hl hsrc
  have hst := run_storeCells_at (P := P) g o te cs 0 (A ++ (M ++ R)).toArray w hg (by simp; omega) h1
  have hrow : ((A ++ (M ++ R)).toArray.toList.take (o + 0) ++ cs ++ (A ++ (M ++ R)).toArray.toList.drop (o + 0 + cs.length)) = A ++ (cs ++ R) := by
    rw [List.toList_toArray, Nat.add_zero, ← ho, List.take_left, ← hM, ← List.drop_drop, List.drop_left, List.drop_left, List.append_assoc]
  rw [hrow] at hst
  simp only [Builtin.copy_]
  simp [run_underlying ht, Builtin.lenOf, hm, hsz, hfc, hst]
theorem below_setRow' {B g : Nat} {w0 w : World} (hb : Below B w0 w) (hBg : B ≤ g) (cs : Array Value) : Below B w0 (w.setRow g cs) :=
  hb.trans ⟨rfl, rfl, rfl, by simp [World.setRow], fun k hk => setRow_other w g k cs (by omega)⟩

theorem wpList_copy_whole {ops : Array Oper} {rest : List Oper} {op : Oper} {a : Act} {w : World} {Q : Exit → Act → World → Prop} (L : Lay P e α) {t : TypeId} (ht : P.underlying t = some (.slice e)) (hgd : op.guard = none) (d s : Operand)
    (ho : op.op = .call { callee := .builtin .copy, args := #[d, s], argTypes := #[t, t] }) (g o : Nat) (A M R cs : List Value) (te : TypeId) (hg : w.heap[g]? = some (.cells (A ++ (M ++ R)).toArray te (0, 0))) (hoA : A.length = o)
    (hM : M.length = cs.length) (h1 : ∀ u ∈ cs, u.oneCell' = true) (dn dc sn sc m : Nat) (sp : Addr) (hm : Nat.min sn dn = m) (hl : cs.length = m * L.size) (hsrc : ∀ j v, cs[j]? = some v → w.cell? (sp.add j) = some v)
    (hd : a.eval d = .slice (some ⟨g, o, none⟩) dn dc) (hs : a.eval s = .slice (some sp) sn sc)
    (h : ∀ w', w'.heap[g]? = some (.cells (A ++ (cs ++ R)).toArray te (0, 0)) → (∀ B, B ≤ g → Below B w w') → (∀ k, k ≠ g → w'.heap[k]? = w.heap[k]?) → w'.heap.size = w.heap.size → wpList P ops Q rest (a.put op.dst (goInt m)) w') : wpList P ops Q (op :: rest) a w :=
  wpList_plain hgd fun K hK => by
    have hrun := run_copy_whole L ht op.type w g o A M R cs te hg hoA hM h1 dn dc sn sc m sp hm hl hsrc
    unfold Oper.wp execOp
    simp only [ho, resolve, invoke, builtin, Sem.run_bind, Sem.run_pure, Result.andThen_ok, List.map_toArray, List.map_cons, List.map_nil, hd, hs, hrun]
    exact hK _ _ (h _ (setRow_heap w g _ _ te _ hg) (fun B hB => below_setRow' (Below.refl _ _) hB _) (fun k hk => setRow_other w g k _ hk) (by simp [World.setRow]))

/-- append(s[:i], make(S, k)...) where there is no room: a new row: what stood first, then zeros. -/
theorem run_append_zeros (L : Lay P e α) {t tn : TypeId} (ht : P.underlying t = some (.slice e)) (htn : P.underlying tn = some (.int .i64)) (ty : TypeId) (w : World) (b o i c k : Nat) (A : List Value) (hA : A.length = i * L.size)
    (hsrc : ∀ j v, A[j]? = some v → w.cell? ⟨b, o + j, none⟩ = some v) (hk : 0 < k) (hg : c < i + k) (hby : (i + k) * L.bytes ≤ 140737488355328) :
    ∃ w' g' c' Z, (Builtin.append_ #[t, tn] ty #[.slice (some ⟨b, o, none⟩) i c, .int .i64 k]).run P w = .ok (.slice (some ⟨g', 0, none⟩) (i + k) c') w' ∧ g' = w.heap.size ∧ i + k ≤ c' ∧ c' ≤ maxLen ∧
      w'.heap[g']? = some (.cells (A ++ Z).toArray e (0, 0)) ∧ (A ++ Z).length = c' * L.size ∧ Below w.heap.size w w' ∧ w'.heap.size = w.heap.size + 1 := by
  obtain ⟨ti, z, h1, h2, h3, h4, h5, _⟩ := L.parts
  have hb := L.bpos
  have hsmall : i + k ≤ 140737488355328 := Nat.le_trans (Nat.le_mul_of_pos_right _ hb) hby
  have hold : (Builtin.firstCells ti.size i (.slice (some ⟨b, o, none⟩) i c)).run P w.drew = .ok A.toArray w.drew := by
    rw [h3]
    exact run_firstCells_some (P := P) (w := w.drew) L.size i ⟨b, o, none⟩ i c A hA (fun j v hj => by rw [Addr.add_mid]; exact hsrc j v hj)
  have hrun := Lib.run_append_grow_zeros (P := P) w t tn ty e ti z .i64 .i64 ht htn h1 h2 (some ⟨b, o, none⟩) i c A hold k hk (by rw [h3]; exact L.pos) hg (by omega)
    (by rw [h4]; have : k * L.bytes ≤ (i + k) * L.bytes := Nat.mul_le_mul_right _ (by omega); omega) (by rw [h4]; exact growslice_fits hg hby)
  have hle : i + k ≤ grownCap w (i + k) c e := by simp [grownCap, Question.cut]
  have hmax := grownCap_le_maxLen w (i + k) c e (by unfold maxLen; omega)
  refine ⟨_, w.heap.size, grownCap w (i + k) c e, (Builtin.zeroCells z.cells k ++ Builtin.zeroCells z.cells (grownCap w (i + k) c e - (i + k))).toList, hrun, rfl, hle, hmax, ?_, ?_, ?_, ?_⟩
  · have := heap_alloc_new w.drew (.cells (A.toArray ++ Builtin.zeroCells z.cells k ++ Builtin.zeroCells z.cells (grownCap w (i + k) c e - (i + k))) e)
    have h6 : w.drew.heap.size = w.heap.size := rfl
    rw [h6] at this
    rw [this]
    congr 2
    simp
  · simp [size_zeroCells, h5, hA]
    rw [← Nat.add_mul, ← Nat.add_mul]
    congr 1
    omega
  · exact ((Below.refl w.heap.size w).drew).alloc (Nat.le_refl _) _
  · simp
/-- out = append(out, y), y in a new row of one. -/
theorem wpList_app1 {ops : Array Oper} {rest : List Oper} {op : Oper} {ac : Act} {w : World} {cs : Array Value} {te : TypeId} {Q : Exit → Act → World → Prop} (L : Lay P e α) {t : TypeId} (ht : P.underlying t = some (.slice e)) (hgd : op.guard = none) (s x : Operand)
    (ho : op.op = .call { callee := .builtin .append, args := #[s, x], argTypes := #[t, t] }) (B : Nat) (a : Option Addr) (n c : Nat) (xs : List α) (hs : ac.eval s = .slice a n c) (hown : w.ownsRow B e L.size (.slice a n c) n (xs.flatMap L.cells))
    (y : α) (hcs : cs.toList = L.cells y) (hx : ac.eval x = .slice (some ⟨w.heap.size, 0, none⟩) 1 1) (hby : (n + 1) * L.bytes ≤ 140737488355328) (hB : B ≤ w.heap.size)
    (h : ∀ a' c' w', w'.ownsRow B e L.size (.slice a' (n + 1) c') (n + 1) ((xs ++ [y]).flatMap L.cells) → Below B w w' → wpList P ops Q rest (ac.put op.dst (.slice a' (n + 1) c')) w') : wpList P ops Q (op :: rest) ac (w.alloc (.cells cs te)) := by
  refine wpList_app (L.elem ht) hgd s x ho B (.slice a n c) n _ hs (hown.alloc _) (some ⟨w.heap.size, 0, none⟩) 1 1 (L.cells y) hx (by rw [L.len, Nat.one_mul]) (by rw [← hcs]; exact Row.new _ _ _ _) (L.one y) hby (Nat.le_trans hB (by simp)) ?_
  intro a' c' w' ho2 hg2
  refine h a' c' w' ?_ (Below.app ((Below.refl B w).alloc hB _) (hown.alloc _) hg2 (Nat.le_trans hB (by simp)))
  rw [List.flatMap_append, List.flatMap_cons, List.flatMap_nil, List.append_nil]
  exact ho2
/-- A thing read, its value spelled as one likes. -/
theorem wpList_load_as {ops : Array Oper} {rest : List Oper} {op : Oper} {a : Act} {w : World} {Q : Exit → Act → World → Prop} (L : Lay P e α) (hgd : op.guard = none) (x : Operand) (ho : op.op = .load e x)
    (b o : Nat) (hx : a.eval x = .pointer (some ⟨b, o, none⟩)) (y : α) (v : Value) (hv : L.val y = v) (hc : w.rangeAt b o (L.cells y)) (h : wpList P ops Q rest (a.put op.dst v) w) : wpList P ops Q (op :: rest) a w := by
  subst hv
  exact wpList_load_lay L hgd x ho b o hx y hc h
/-- A thing put into a variable: the world behind it is not looked into. -/
theorem wpList_store_there {ops : Array Oper} {rest : List Oper} {op : Oper} {a : Act} {w : World} {Q : Exit → Act → World → Prop} (L : Lay P e α) (hgd : op.guard = none) (x y : Operand) (ho : op.op = .store e x y)
    (b o : Nat) (z : α) (hx : a.eval x = .pointer (some ⟨b, o, none⟩)) (hy : a.eval y = L.val z) (ht : w.there b o L.size)
    (h : ∀ w', w'.rangeAt b o (L.cells z) → w'.there b o L.size → (∀ B, B ≤ b → Below B w w') → w'.heap.size = w.heap.size → wpList P ops Q rest (a.put op.dst undef) w') : wpList P ops Q (op :: rest) a w :=
  wpList_store_lay L hgd x y ho b o z hx hy ht (h _ (range_put z ht) (World.there_setCells ht _ _ _) (fun _ hB => Below.setCells hB _ _ (Below.refl _ _)) (setCells_size _ _ _ _))
theorem box_there {w w' : World} {cs : Array Value} {t : TypeId} (hb : Below (w.alloc (.cells cs t)).heap.size (w.alloc (.cells cs t)) w') : w'.there w.heap.size 0 cs.size :=
  there_below (there_new w cs t) hb (by simp)
theorem box_range {w w' : World} {cs : List Value} {t : TypeId} (hb : Below (w.alloc (.cells cs.toArray t)).heap.size (w.alloc (.cells cs.toArray t)) w') : w'.rangeAt w.heap.size 0 cs := fun j v hv => by
  rw [Nat.zero_add, own_cells hb j, List.getElem?_toArray, hv]
theorem Can.alloc {w : World} {B : Nat} {t : TypeId} {size : Nat} {a : Option Addr} {n c : Nat} {xs : List Value} (h : Can w B t size a n c xs) (o : Obj) : Can (w.alloc o) B t size a n c xs :=
  ⟨h.1, h.2.1, h.2.2.imp (fun ⟨h1, h2⟩ => ⟨h1, Row.alloc h2 o⟩) (fun h => h.alloc o)⟩
theorem own_whole {L : Lay P e α} {w : World} {B g n c : Nat} {A : List Value} (h : w.ownsRow B e L.size (.slice (some ⟨g, 0, none⟩) n c) n A) : B ≤ g ∧ n ≤ c ∧ c ≤ maxLen ∧ A.length = n * L.size ∧ ∃ D, w.heap[g]? = some (.cells (A ++ D).toArray e (0, 0)) ∧ (A ++ D).length = c * L.size := by
  obtain ⟨hl, h⟩ := h
  rcases h with ⟨hv, _⟩ | ⟨g', cap, cur, hv, hB, hg, hnc, hm, hs, ht⟩
  · cases hv
  · simp only [Value.slice.injEq, Option.some.injEq, Addr.mk.injEq, and_true] at hv
    obtain ⟨rfl, _, rfl⟩ := hv
    refine ⟨hB, hnc, hm, hl, cur.toList.drop (n * L.size), ?_, ?_⟩
    · rw [← ht, List.take_append_drop]; simpa using hg
    · rw [← ht, List.take_append_drop]; simpa using hs
theorem own_of_whole {L : Lay P e α} {w : World} {B g n c : Nat} {A D : List Value} (hB : B ≤ g) (hnc : n ≤ c) (hm : c ≤ maxLen) (hA : A.length = n * L.size) (hg : w.heap[g]? = some (.cells (A ++ D).toArray e (0, 0))) (hs : (A ++ D).length = c * L.size) :
    w.ownsRow B e L.size (.slice (some ⟨g, 0, none⟩) n c) n A :=
  ⟨hA, .inr ⟨g, c, (A ++ D).toArray, rfl, hB, hg, hnc, hm, by simpa using hs, by rw [List.toList_toArray, ← hA, List.take_left]⟩⟩
end
end Go.Proofs.Ytlckgnemmffdkaa
