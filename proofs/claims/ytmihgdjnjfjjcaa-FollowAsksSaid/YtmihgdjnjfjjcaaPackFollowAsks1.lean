import Derived.Test.YtmihgdjnjfjjcaaRows
import Derived.WalkKit
import Derived.ProofKit
import Derived.Outline
import Derived.OpenShut
import Derived.ShutString
import Derived.ChangeOld
import Derived.Below
import Derived.Handy
import Derived.BigQuiet
import Derived.Deep.QuietTactic
import Derived.Deep.DeepFit
import Derived.StillTailTactics
import Derived.Deep.RegionWith
import Derived.ArgAppend
import Derived.Lib.Hide
import Derived.Lib.SlBytesConst
import Derived.Deep.Slices
import Derived.Carry
import Derived.SizedLaws
import Derived.Deep.MidRow
import Derived.Laws.Externs
import Derived.Lib.Overlaps
import Derived.Lib.AppendZerosOnto
import Derived.Deep.DeepAppendRoom
set_option linter.unusedVariables false
set_option linter.unusedSimpArgs false
/- What all the walks of this seat lean on: bytes and rows of cells in memory. -/
namespace Go.Proofs.Ytmihgdjnjfjjcaa
open Go.ChangeShapes Go.WideShapes Go.ChangeAt Go.RowKit
set_option maxRecDepth 100000

theorem ret_int {k : IntKind} {a b : Int} (h : a = b) : Ending.returned (.int k a) = .returned (.int k b) := by rw [h]
theorem val_int {k : IntKind} {a b : Int} (h : a = b) : Value.int k a = .int k b := by rw [h]
theorem ret_bool {a b : Bool} (h : a = b) : Ending.returned (.bool a) = .returned (.bool b) := by rw [h]
/-- A byte as a value. -/
abbrev B (x : UInt8) : Value := .int .u8 (x.toNat : Int)
/-- From the address on, the memory reads as these cells. -/
def Row (w : World) (a : Option Addr) (xs : List Value) : Prop :=
  xs = [] ∨ ∃ b o, a = some ⟨b, o, none⟩ ∧ ∀ i (h : i < xs.length), w.cell? ⟨b, o + i, none⟩ = some xs[i]
abbrev RowB (w : World) (a : Option Addr) (l : List UInt8) : Prop := Row w a (l.map B)

theorem Row.nil (w : World) (a : Option Addr) : Row w a [] := .inl rfl
theorem Row.at {w : World} {a : Option Addr} {xs : List Value} (h : Row w a xs) {k : Nat} (hk : k < xs.length) :
    ∃ b o, a = some ⟨b, o, none⟩ ∧ ∀ i (h : i < xs.length), w.cell? ⟨b, o + i, none⟩ = some xs[i] := by
  rcases h with rfl | h
  · simp at hk
  · exact h
theorem RowB.at {w : World} {a : Option Addr} {l : List UInt8} (h : RowB w a l) {k : Nat} (hk : k < l.length) :
    ∃ b o, a = some ⟨b, o, none⟩ ∧ ∀ i (h : i < l.length), w.cell? ⟨b, o + i, none⟩ = some (.int .u8 (l[i].toNat : Int)) := by
  obtain ⟨b, o, ha, hc⟩ := Row.at h (k := k) (by simpa using hk)
  exact ⟨b, o, ha, fun i hi => by have := hc i (by simpa using hi); rw [List.getElem_map] at this; exact this⟩

theorem maxLen_eq : maxLen = 9223372036854775807 := by decide
theorem le_maxLen {n : Nat} (h : n ≤ 1048576) : n ≤ maxLen := Nat.le_trans h (by decide)
theorem lt_maxLen {n : Nat} (h : n ≤ maxLen) : n ≤ 9223372036854775807 := maxLen_eq ▸ h

/-- What the table says of a slice type and its elements. -/
structure Elem (P : Program) (t e : TypeId) (size bytes : Nat) : Prop where
  under : P.underlying t = some (.slice e)
  info : ∃ i z, P.info? e = some i ∧ i.zero = some z ∧ i.size = size ∧ i.bytes = bytes ∧ z.cells.size = size
  pos : 0 < size
  bpos : 0 < bytes

theorem run_firstCells_nil {P : Program} (w : World) (size n c : Nat) : (Builtin.firstCells size 0 (.slice none n c)).run P w = .ok #[] w := by
  simp [Builtin.firstCells]

theorem run_append_nil {P : Program} {w : World} (base : Nat) (t ty e : TypeId) (i : TypeInfo) (size : Nat) (ht : P.underlying t = some (.slice e)) (hi : P.info? e = some i)
    (v : Value) (n c : Nat) (xs : List Value) (hown : w.ownsRow base e size v n xs) :
    (Builtin.append_ #[t, t] ty #[v, .slice none 0 c]).run P w = .ok v w := by
  rcases hown.2 with ⟨rfl, rfl⟩ | ⟨g, cap, cur, rfl, _, _, hnc, _⟩
  · simp [Builtin.append_, run_underlying ht, sizeOf, typeInfo, hi, Builtin.lenOf, Builtin.firstCells]
  · simp [Builtin.append_, run_underlying ht, sizeOf, typeInfo, hi, Builtin.lenOf, Builtin.firstCells, hnc, storeCells]

theorem own_slice {w : World} {base : Nat} {e : TypeId} {size : Nat} {v : Value} {n : Nat} {xs : List Value} (h : w.ownsRow base e size v n xs) :
    ∃ a c, v = .slice a n c ∧ n ≤ c ∧ c ≤ maxLen ∧ (a = none → c = 0) := by
  rcases h.2 with ⟨rfl, rfl⟩ | ⟨g, cap, cur, rfl, _, _, hnc, hm, _⟩
  · exact ⟨none, 0, rfl, Nat.le_refl _, Nat.zero_le _, fun _ => rfl⟩
  · exact ⟨_, cap, rfl, hnc, hm, fun h => by simp at h⟩

theorem own_row {w : World} {base : Nat} {e : TypeId} {size : Nat} {a : Option Addr} {n c : Nat} {xs : List Value} (h : w.ownsRow base e size (.slice a n c) n xs) : Row w a xs := by
  obtain ⟨hl, h⟩ := h
  rcases h with ⟨hv, rfl⟩ | ⟨g, cap, cur, hv, _, hg, hnc, hm, hs, ht⟩
  · exact .inl (List.eq_nil_of_length_eq_zero (by simpa using hl))
  · simp only [Value.slice.injEq] at hv
    obtain ⟨rfl, _, rfl⟩ := hv
    refine .inr ⟨g, 0, rfl, fun i hi => ?_⟩
    subst ht
    have hi2 : i < n * size := by simp at hi; omega
    have h2 : n * size ≤ cur.size := by rw [hs]; exact Nat.mul_le_mul_right _ hnc
    simp only [World.cell?, hg, Nat.zero_add, Option.isSome_none, Bool.false_eq_true, if_false]
    rw [Array.getElem?_eq_getElem (by omega)]
    simp

theorem wpList_app {P : Program} {w : World} {ops : Array Oper} {rest : List Oper} {o : Oper} {a : Act} {Q : Exit → Act → World → Prop} {t e : TypeId} {size bytes : Nat} (el : Elem P t e size bytes) (hgd : o.guard = none) (s x : Operand)
    (ho : o.op = .call { callee := .builtin .append, args := #[s, x], argTypes := #[t, t] })
    (base : Nat) (v : Value) (n : Nat) (xs : List Value) (hs : a.eval s = v) (hown : w.ownsRow base e size v n xs)
    (ad : Option Addr) (m c : Nat) (news : List Value) (hx : a.eval x = .slice ad m c) (hl : news.length = m * size) (hr : Row w ad news) (h1 : ∀ u ∈ news, u.oneCell' = true)
    (hbytes : (n + m) * bytes ≤ 140737488355328) (hbase : base ≤ w.heap.size)
    (h : ∀ a' c' w', w'.ownsRow base e size (.slice a' (n + m) c') (n + m) (xs ++ news) → w.grownBy w' v.ownBlock → wpList P ops Q rest (a.put o.dst (.slice a' (n + m) c')) w') : wpList P ops Q (o :: rest) a w := by
  obtain ⟨i, z, hi, hz, hsize, hby, hzs⟩ := el.info
  have hb := el.bpos
  have h63 : n + m ≤ maxLen := by
    have : n + m ≤ (n + m) * bytes := Nat.le_mul_of_pos_right _ hb
    unfold maxLen; omega
  cases ad with
  | some ad =>
    refine wpList_append_own w hgd s x t ho base e i z size bytes el.under hi hz hsize hby hzs el.pos v n xs hs hown ad m c news hx hl ?_ h1 h63 hbytes hbase ?_
    · intro j u hj
      rcases hr with rfl | ⟨b, o, ha, hc⟩
      · simp at hj
      · simp only [Option.some.injEq] at ha
        subst ha
        obtain ⟨hj1, rfl⟩ := List.getElem?_eq_some_iff.1 hj
        have := hc j hj1
        by_cases h0 : j = 0
        · subst h0; simpa [Addr.add] using this
        · simpa [Addr.add, h0] using this
    · intro v' w' ho' hg' _
      obtain ⟨a', c', rfl, _⟩ := own_slice ho'
      exact h a' c' w' ho' hg'
  | none =>
    rcases hr with rfl | ⟨b, o, ha, hc⟩
    · have hm : m = 0 := by
        have hp := el.pos
        rcases Nat.eq_zero_or_pos m with h | h
        · exact h
        · have := Nat.mul_pos h hp
          simp at hl
          omega
      subst hm
      refine wpList_plain hgd fun K hK => ?_
      unfold Oper.wp execOp
      have hrun2 := run_append_nil (P := P) (w := w) base t o.type e i size el.under hi v n c xs hown
      simp only [ho, resolve, invoke, builtin, Sem.run_bind, Sem.run_pure, Result.andThen_ok, List.map_toArray, List.map_cons, List.map_nil, hs, hx, hrun2]
      obtain ⟨a', c', rfl, _⟩ := own_slice hown
      refine hK _ _ (h a' c' w ?_ ⟨rfl, rfl, rfl, Nat.le_refl _, fun _ _ _ => rfl⟩)
      rw [Nat.add_zero, List.append_nil]
      exact hown
    · simp at ha

theorem Row.lt {w : World} {b o : Nat} {xs : List Value} (h : Row w (some ⟨b, o, none⟩) xs) (h0 : xs ≠ []) : b < w.heap.size := by
  rcases h with h | ⟨b', o', ha, hc⟩
  · exact absurd h h0
  · simp at ha
    obtain ⟨rfl, rfl⟩ := ha
    exact World.block_lt_of_cell? w _ (hc 0 (List.length_pos_iff.2 h0))
theorem Row.get {w : World} {a : Option Addr} {xs : List Value} {k : Nat} {x : Value} (h : Row w a xs) (hk : xs[k]? = some x) :
    ∃ b o, a = some ⟨b, o, none⟩ ∧ w.cell? ⟨b, o + k, none⟩ = some x := by
  obtain ⟨hlt, rfl⟩ := List.getElem?_eq_some_iff.1 hk
  obtain ⟨b, o, rfl, hc⟩ := h.at hlt
  exact ⟨b, o, rfl, hc k hlt⟩
/-- What is read stays where no old block has turned. -/
theorem Row.below {w w' : World} {a : Option Addr} {xs : List Value} (h : Row w a xs) (hb : Below w.heap.size w w') : Row w' a xs := by
  by_cases h0 : xs = []
  · exact .inl h0
  · rcases h with h | ⟨b, o, rfl, hc⟩
    · exact absurd h h0
    · have hlt := Row.lt (.inr ⟨b, o, rfl, hc⟩) h0
      exact .inr ⟨b, o, rfl, fun i hi => (hb.cell (p := ⟨b, o + i, none⟩) hlt).trans (hc i hi)⟩
theorem Row.alloc {w : World} {a : Option Addr} {xs : List Value} (h : Row w a xs) (o : Obj) : Row (w.alloc o) a xs := h.below ((Below.refl _ _).alloc (Nat.le_refl _) o)
theorem Row.drew {w : World} {a : Option Addr} {xs : List Value} (h : Row w a xs) : Row w.drew a xs := h
/-- A row of cells known whole. -/
theorem Row.of_block {w : World} {g : Nat} {cs : Array Value} {e : TypeId} {f : Nat × Nat} (h : w.heap[g]? = some (.cells cs e f)) : Row w (some ⟨g, 0, none⟩) cs.toList := by
  refine .inr ⟨g, 0, rfl, fun i hi => ?_⟩
  simp only [World.cell?, h, Nat.zero_add, Option.isSome_none, Bool.false_eq_true, if_false]
  rw [Array.getElem?_eq_getElem (by simpa using hi)]
  simp
theorem Row.new (w : World) (cs : Array Value) (e : TypeId) (f : Nat × Nat) : Row (w.alloc (.cells cs e f)) (some ⟨w.heap.size, 0, none⟩) cs.toList := Row.of_block (heap_alloc_new w _)
theorem Row.setFar {w : World} {g : Nat} {xs : List Value} (h : Row w (some ⟨g, 0, none⟩) xs) {p : Addr} (hp : p.block ≠ g) (v : Value) : Row (w.setCell p v) (some ⟨g, 0, none⟩) xs := by
  rcases h with h | ⟨b, o, ha, hc⟩
  · exact .inl h
  · simp only [Option.some.injEq, Addr.mk.injEq, and_true] at ha
    obtain ⟨rfl, rfl⟩ := ha
    exact .inr ⟨g, 0, rfl, fun i hi => (World.cell?_setCell_other w p _ v (fun e => hp (congrArg Addr.block e))).trans (hc i hi)⟩
theorem Row.take {w : World} {a : Option Addr} {xs : List Value} (h : Row w a xs) (j : Nat) : Row w a (xs.take j) := by
  rcases h with rfl | ⟨b, o, ha, hc⟩
  · exact .inl (by simp)
  · exact .inr ⟨b, o, ha, fun i hi => by
      have hi2 : i < xs.length := by simp at hi; omega
      rw [hc i hi2]; simp⟩
theorem Row.drop {w : World} {b o : Nat} {xs : List Value} (h : Row w (some ⟨b, o, none⟩) xs) (j : Nat) : Row w (some ⟨b, o + j, none⟩) (xs.drop j) := by
  rcases h with rfl | ⟨b', o', ha, hc⟩
  · exact .inl (by simp)
  · simp only [Option.some.injEq, Addr.mk.injEq, and_true] at ha
    obtain ⟨rfl, rfl⟩ := ha
    exact .inr ⟨b, o + j, rfl, fun i hi => by
      have hi2 : j + i < xs.length := by simp at hi; omega
      have := hc (j + i) hi2
      rw [Nat.add_assoc, this]; simp⟩
theorem Row.getBelow {w : World} {a : Option Addr} {xs : List Value} {k : Nat} {x : Value} (h : Row w a xs) (hk : xs[k]? = some x) :
    ∃ b o, a = some ⟨b, o, none⟩ ∧ ∀ w', Below w.heap.size w w' → w'.cell? ⟨b, o + k, none⟩ = some x := by
  obtain ⟨b, o, rfl, hc⟩ := h.get hk
  exact ⟨b, o, rfl, fun w' hb => (hb.cell (p := ⟨b, o + k, none⟩) (World.block_lt_of_cell? w _ hc)).trans hc⟩
theorem Below.app {B0 : Nat} {w0 w w' : World} {e : TypeId} {size n : Nat} {v : Value} {xs : List Value} (h : Below B0 w0 w) (hown : w.ownsRow B0 e size v n xs) (hg : w.grownBy w' v.ownBlock) (hB : B0 ≤ w.heap.size) : Below B0 w0 w' :=
  h.grown hg hB fun k hk => (hown.lt k hk).1
theorem flatMap_at {α : Type} {cells : α → List Value} {size : Nat} (hs : ∀ x, (cells x).length = size) : ∀ {xs : List α} {i r : Nat}, r < size → (xs.flatMap cells)[i * size + r]? = (xs[i]?).bind fun x => (cells x)[r]?
  | [], i, r, _ => by simp
  | x :: xs, 0, r, hr => by
    simp only [List.flatMap_cons, Nat.zero_mul, Nat.zero_add, List.getElem?_cons_zero, Option.bind_some]
    rw [List.getElem?_append_left (by rw [hs]; exact hr)]
  | x :: xs, i + 1, r, hr => by
    simp only [List.flatMap_cons, List.getElem?_cons_succ]
    rw [List.getElem?_append_right (by rw [hs, Nat.succ_mul]; omega), hs, Nat.succ_mul, show i * size + size + r - size = i * size + r from by omega]
    exact flatMap_at hs hr
theorem flatMap_one {α β : Type} (f : α → β) (xs : List α) : xs.flatMap (fun x => [f x]) = xs.map f := by
  induction xs with
  | nil => rfl
  | cons x xs ih => rw [List.flatMap_cons, ih]; rfl
theorem flatMap_len {α : Type} {cells : α → List Value} {size : Nat} (hs : ∀ x, (cells x).length = size) (xs : List α) : (xs.flatMap cells).length = xs.length * size := by
  induction xs with
  | nil => simp
  | cons x xs ih => rw [List.flatMap_cons, List.length_append, ih, hs, List.length_cons, Nat.succ_mul]; omega

theorem Row.holds {w : World} {ad : Addr} {xs : List Value} (h : Row w (some ad) xs) : ∀ j u, xs[j]? = some u → w.cell? (ad.add j) = some u := by
  intro j u hj
  rcases h with rfl | ⟨b, o, ha, hc⟩
  · simp at hj
  · simp only [Option.some.injEq] at ha
    subst ha
    obtain ⟨hj1, rfl⟩ := List.getElem?_eq_some_iff.1 hj
    have := hc j hj1
    by_cases h0 : j = 0
    · subst h0; simpa [Addr.add] using this
    · simpa [Addr.add, h0] using this

/-- A slice that may be appended to: it is full (so an append makes a new row), or it is a row of the call's own, from block B on. -/
def Can (w : World) (B : Nat) (e : TypeId) (size : Nat) (a : Option Addr) (n c : Nat) (xs : List Value) : Prop :=
  xs.length = n * size ∧ n ≤ maxLen ∧ ((n = c ∧ Row w a xs) ∨ w.ownsRow B e size (.slice a n c) n xs)

theorem Can.nil (w : World) (B : Nat) (e : TypeId) (size : Nat) : Can w B e size none 0 0 [] := ⟨by simp, Nat.zero_le _, .inl ⟨rfl, .inl rfl⟩⟩
theorem Can.empty (w : World) (B : Nat) (e : TypeId) (size : Nat) (a : Option Addr) : Can w B e size a 0 0 [] := ⟨by simp, Nat.zero_le _, .inl ⟨rfl, .inl rfl⟩⟩
theorem Can.full {w : World} {B : Nat} {e : TypeId} {size : Nat} {a : Option Addr} {n : Nat} {xs : List Value} (h : Row w a xs) (hl : xs.length = n * size) (hn : n ≤ maxLen) : Can w B e size a n n xs := ⟨hl, hn, .inl ⟨rfl, h⟩⟩
theorem Can.row {w : World} {B : Nat} {e : TypeId} {size : Nat} {a : Option Addr} {n c : Nat} {xs : List Value} (h : Can w B e size a n c xs) : Row w a xs := by
  rcases h.2.2 with ⟨_, h⟩ | h
  · exact h
  · exact own_row h
theorem Can.le {w : World} {B : Nat} {e : TypeId} {size : Nat} {a : Option Addr} {n c : Nat} {xs : List Value} (h : Can w B e size a n c xs) : n ≤ c := by
  rcases h.2.2 with ⟨h, _⟩ | h
  · omega
  · obtain ⟨a', c', hv, hl, _⟩ := own_slice h
    simp only [Value.slice.injEq] at hv
    omega
theorem Can.none {w : World} {B : Nat} {e : TypeId} {size : Nat} {a : Option Addr} {n c : Nat} {xs : List Value} (h : Can w B e size a n c xs) (hp : 0 < size) : a = none → c = 0 := by
  intro ha
  rcases h.2.2 with ⟨rfl, hr⟩ | h2
  · rcases hr with rfl | ⟨_, _, h3, _⟩
    · rcases Nat.eq_zero_or_pos n with h4 | h4
      · exact h4
      · have := Nat.mul_pos h4 hp
        have h0 := h.1
        simp at h0; omega
    · rw [ha] at h3; simp at h3
  · obtain ⟨a', c', hv, _, _, hc⟩ := own_slice h2
    simp only [Value.slice.injEq] at hv
    obtain ⟨rfl, _, rfl⟩ := hv
    exact hc ha
theorem own_block {w : World} {B : Nat} {e : TypeId} {size : Nat} {a : Option Addr} {n c : Nat} {xs : List Value} (h : w.ownsRow B e size (.slice a n c) n xs) : ∀ b o s, a = some ⟨b, o, s⟩ → B ≤ b := by
  intro b o s ha
  exact (h.lt b (by rw [ha]; rfl)).1
/-- A row's address lies in memory from B on, or in the source's block. -/
def Near (B : Nat) (src a : Option Addr) : Prop := ∀ b o s, a = some ⟨b, o, s⟩ → B ≤ b ∨ ∃ o' s', src = some ⟨b, o', s'⟩
theorem Near.self (B : Nat) (a : Option Addr) : Near B a a := fun b o s h => .inr ⟨o, s, h⟩
theorem Near.nil (B : Nat) (src : Option Addr) : Near B src none := fun _ _ _ h => by cases h
theorem Near.own {w : World} {B B' : Nat} {e : TypeId} {size : Nat} {a src : Option Addr} {n c : Nat} {xs : List Value} (h : w.ownsRow B e size (.slice a n c) n xs) (hB : B' ≤ B) : Near B' src a :=
  fun b o s ha => .inl (Nat.le_trans hB (own_block h b o s ha))
theorem Near.mono {B B' : Nat} {src a : Option Addr} (h : Near B src a) (hB : B' ≤ B) : Near B' src a := fun b o s ha => (h b o s ha).imp (Nat.le_trans hB) id
theorem Near.trans' {B : Nat} {a : Option Addr} (h : Near B none a) (src : Option Addr) : Near B src a := fun b o s ha => by
  rcases h b o s ha with h1 | ⟨_, _, h1⟩
  · exact .inl h1
  · cases h1
theorem Near.trans {B : Nat} {src a b : Option Addr} (h : Near B src a) (h2 : Near B a b) : Near B src b := fun x o s hb => by
  rcases h2 x o s hb with h3 | ⟨o', s', h3⟩
  · exact .inl h3
  · exact h x o' s' h3
theorem Row.setOther {w : World} {a : Option Addr} {xs : List Value} (h : Row w a xs) {p : Addr} (hp : ∀ b o s, a = some ⟨b, o, s⟩ → b ≠ p.block) (v : Value) : Row (w.setCell p v) a xs := by
  rcases h with h | ⟨b, o, ha, hc⟩
  · exact .inl h
  · exact .inr ⟨b, o, ha, fun i hi => (World.cell?_setCell_other w p _ v (fun e => hp b o none ha (congrArg Addr.block e).symm)).trans (hc i hi)⟩
theorem Can.drew {w : World} {B : Nat} {e : TypeId} {size : Nat} {a : Option Addr} {n c : Nat} {xs : List Value} (h : Can w B e size a n c xs) : Can w.drew B e size a n c xs := h

/-- append: where the base may be appended to and the source can be read. -/
theorem run_can {P : Program} {w : World} {t e : TypeId} {size bytes : Nat} (el : Elem P t e size bytes) (ty : TypeId) (B : Nat) (a : Option Addr) (n c : Nat) (xs : List Value) (hcan : Can w B e size a n c xs)
    (ad : Option Addr) (m k : Nat) (news : List Value) (hl : news.length = m * size) (hr : Row w ad news) (h1 : ∀ u ∈ news, u.oneCell' = true) (hbytes : (n + m) * bytes ≤ 140737488355328) (hB : B ≤ w.heap.size) :
    ∃ a' c' w', (Builtin.append_ #[t, t] ty #[.slice a n c, .slice ad m k]).run P w = .ok (.slice a' (n + m) c') w' ∧ Can w' B e size a' (n + m) c' (xs ++ news) ∧ w.grownBy w' (Value.slice a n c).ownBlock ∧ Below B w w' ∧ (0 < m → w'.ownsRow B e size (.slice a' (n + m) c') (n + m) (xs ++ news)) ∧ (m = 0 → a' = a ∧ c' = c) := by
  obtain ⟨i, z, hi, hz, hsize, hby, hzs⟩ := el.info
  have hb := el.bpos
  have hp := el.pos
  have h63 : n + m ≤ maxLen := by
    have : n + m ≤ (n + m) * bytes := Nat.le_mul_of_pos_right _ hb
    unfold maxLen; omega
  have hlen : (xs ++ news).length = (n + m) * size := by rw [List.length_append, hcan.1, hl, Nat.add_mul]
  by_cases hm : m = 0
  · subst hm
    obtain rfl : news = [] := List.eq_nil_of_length_eq_zero (by simpa using hl)
    refine ⟨a, c, w, ?_, ?_, ⟨rfl, rfl, rfl, Nat.le_refl _, fun _ _ _ => rfl⟩, Below.refl _ _, fun h => absurd h (by omega), fun _ => ⟨rfl, rfl⟩⟩
    · have hle := hcan.le
      have hfc : ∀ w' : World, (Builtin.firstCells size 0 (.slice ad 0 k)).run P w' = .ok #[] w' := fun w' => by
        cases ad with
        | none => simp [Builtin.firstCells]
        | some ad => exact run_firstCells_some w' size 0 ad 0 k [] (by simp) (fun j u h => by simp at h)
      rw [← hsize] at hfc
      cases a with
      | none => simp [Builtin.append_, run_underlying el.under, sizeOf, typeInfo, hi, Builtin.lenOf, hle, hfc]
      | some x => simp [Builtin.append_, run_underlying el.under, sizeOf, typeInfo, hi, Builtin.lenOf, hle, hfc, storeCells]
    · rw [Nat.add_zero, List.append_nil]; exact hcan
  · obtain ⟨ad', rfl⟩ : ∃ x, ad = some x := by
      cases ad with
      | some x => exact ⟨x, rfl⟩
      | none =>
        rcases hr with rfl | ⟨_, _, h, _⟩
        · have := Nat.mul_pos (Nat.pos_of_ne_zero hm) hp
          simp at hl; omega
        · simp at h
    rcases hcan.2.2 with ⟨rfl, hrow⟩ | hown
    · have fin : ∀ v' w', w'.ownsRow w.heap.size e size v' (n + m) (xs ++ news) → w.grownBy w' none →
          ∃ a' c', v' = .slice a' (n + m) c' ∧ Can w' B e size a' (n + m) c' (xs ++ news) ∧ w.grownBy w' (Value.slice a n n).ownBlock ∧ Below B w w' ∧ (0 < m → w'.ownsRow B e size (.slice a' (n + m) c') (n + m) (xs ++ news)) ∧ (m = 0 → a' = a ∧ c' = n) := by
        intro v' w' ho hg
        obtain ⟨a', c', rfl, hc1, hc2, _⟩ := own_slice ho
        have hB2 : w'.ownsRow B e size (.slice a' (n + m) c') (n + m) (xs ++ news) := by
          obtain ⟨ho1, ho2⟩ := ho
          refine ⟨ho1, ?_⟩
          rcases ho2 with h | ⟨g, cap, cur, h2, h3, h4⟩
          · exact .inl h
          · exact .inr ⟨g, cap, cur, h2, Nat.le_trans hB h3, h4⟩
        exact ⟨a', c', rfl, ⟨hlen, h63, .inr hB2⟩, ⟨hg.os, hg.tape, hg.output, hg.size, fun q hq _ => hg.block q hq (by simp)⟩, (Below.refl B w).grown hg hB (fun _ h => by cases h), fun _ => hB2, fun h => absurd h hm⟩
      cases a with
      | some x =>
        obtain ⟨v', w', hrun, ho, hg⟩ := run_append_arg_grows w t ty e i z size bytes el.under hi hz hsize hby hzs hp x n n xs hcan.1 hrow.holds ad' m k news hl hr.holds (by omega) h63 hbytes
        obtain ⟨a', c', rfl, h⟩ := fin v' w' ho hg
        exact ⟨a', c', w', hrun, h⟩
      | none =>
        have hx : xs = [] := by
          rcases hrow with h | ⟨_, _, h, _⟩
          · exact h
          · simp at h
        subst hx
        have hn : n = 0 := by
          rcases Nat.eq_zero_or_pos n with h | h
          · exact h
          · have := Nat.mul_pos h hp
            have h0 := hcan.1
            simp at h0
            omega
        subst hn
        obtain ⟨v', w', hrun, ho, hg, _⟩ := run_append_own w w.heap.size t ty e i z size bytes el.under hi hz hsize hby hzs hp (.slice none 0 0) 0 [] (World.ownsRow_nil _ _ _ _) ad' m k news hl hr.holds h1 h63 hbytes (Nat.le_refl _)
        obtain ⟨a', c', rfl, h⟩ := fin v' w' ho hg
        exact ⟨a', c', w', hrun, h⟩
    · obtain ⟨v', w', hrun, ho, hg, _⟩ := run_append_own w B t ty e i z size bytes el.under hi hz hsize hby hzs hp (.slice a n c) n xs hown ad' m k news hl hr.holds h1 h63 hbytes hB
      obtain ⟨a', c', rfl, hc1, hc2, _⟩ := own_slice ho
      exact ⟨a', c', w', hrun, ⟨hlen, h63, .inr ho⟩, hg, Below.app (Below.refl B w) hown hg hB, fun _ => ho, fun h => absurd h hm⟩

theorem wpList_can {P : Program} {w : World} {ops : Array Oper} {rest : List Oper} {o : Oper} {ac : Act} {Q : Exit → Act → World → Prop} {t e : TypeId} {size bytes : Nat} (el : Elem P t e size bytes) (hgd : o.guard = none) (s x : Operand)
    (ho : o.op = .call { callee := .builtin .append, args := #[s, x], argTypes := #[t, t] })
    (B : Nat) (a : Option Addr) (n c : Nat) (xs : List Value) (hs : ac.eval s = .slice a n c) (hcan : Can w B e size a n c xs)
    (ad : Option Addr) (m k : Nat) (news : List Value) (hx : ac.eval x = .slice ad m k) (hl : news.length = m * size) (hr : Row w ad news) (h1 : ∀ u ∈ news, u.oneCell' = true)
    (hbytes : (n + m) * bytes ≤ 140737488355328) (hB : B ≤ w.heap.size)
    (h : ∀ a' c' w', Can w' B e size a' (n + m) c' (xs ++ news) → w.grownBy w' (Value.slice a n c).ownBlock → Below B w w' → (0 < m → w'.ownsRow B e size (.slice a' (n + m) c') (n + m) (xs ++ news)) ∧ (m = 0 → a' = a ∧ c' = c) → wpList P ops Q rest (ac.put o.dst (.slice a' (n + m) c')) w') : wpList P ops Q (o :: rest) ac w := by
  obtain ⟨a', c', w', hrun, h2, h3, h4, h5⟩ := run_can el o.type B a n c xs hcan ad m k news hl hr h1 hbytes hB
  refine wpList_plain hgd fun K hK => ?_
  unfold Oper.wp execOp
  simp only [ho, resolve, invoke, builtin, Sem.run_bind, Sem.run_pure, Result.andThen_ok, List.map_toArray, List.map_cons, List.map_nil, hs, hx, hrun]
  exact hK _ _ (h a' c' w' h2 h3 h4 h5)

theorem flatMap_drop {α : Type} {cells : α → List Value} {size : Nat} (hs : ∀ x, (cells x).length = size) : ∀ (xs : List α) (k : Nat), (xs.flatMap cells).drop (k * size) = (xs.drop k).flatMap cells
  | [], k => by simp
  | x :: xs, 0 => by simp
  | x :: xs, k + 1 => by
    rw [List.flatMap_cons, List.drop_succ_cons, Nat.succ_mul, Nat.add_comm, ← hs x, ← List.drop_drop, List.drop_left, hs x]
    exact flatMap_drop hs xs k
theorem flatMap_take {α : Type} {cells : α → List Value} {size : Nat} (hs : ∀ x, (cells x).length = size) : ∀ (xs : List α) (k : Nat), (xs.flatMap cells).take (k * size) = (xs.take k).flatMap cells
  | [], k => by simp
  | x :: xs, 0 => by simp
  | x :: xs, k + 1 => by
    rw [List.flatMap_cons, List.take_succ_cons, List.flatMap_cons, Nat.succ_mul, Nat.add_comm, ← hs x, List.take_length_add_append, hs x]
    rw [flatMap_take hs xs k]

theorem step_can {P : Program} {w : World} {ops : Array Oper} {o : Oper} {ac : Act} {K : Act → World → Prop} {Q : Exit → Act → World → Prop} {E : Prop} {t e : TypeId} {size bytes : Nat} (el : Elem P t e size bytes) (hgd : o.guard = none) (s x : Operand)
    (ho : o.op = .call { callee := .builtin .append, args := #[s, x], argTypes := #[t, t] })
    (B : Nat) (a : Option Addr) (n c : Nat) (xs : List Value) (hs : ac.eval s = .slice a n c) (hcan : Can w B e size a n c xs)
    (ad : Option Addr) (m k : Nat) (news : List Value) (hx : ac.eval x = .slice ad m k) (hl : news.length = m * size) (hr : Row w ad news) (h1 : ∀ u ∈ news, u.oneCell' = true)
    (hbytes : (n + m) * bytes ≤ 140737488355328) (hB : B ≤ w.heap.size)
    (h : ∀ a' c' w', Can w' B e size a' (n + m) c' (xs ++ news) → w.grownBy w' (Value.slice a n c).ownBlock → Below B w w' → (0 < m → w'.ownsRow B e size (.slice a' (n + m) c') (n + m) (xs ++ news)) ∧ (m = 0 → a' = a ∧ c' = c) → K (ac.put o.dst (.slice a' (n + m) c')) w') :
    if Region.wanted o (yielded ops ac.tmps) = true then Oper.wp P o ac w K Q else E := by
  have hw : Region.wanted o (yielded ops ac.tmps) = true := by simp [Region.wanted, hgd]
  rw [if_pos hw]
  obtain ⟨a', c', w', hrun, h2, h3, h4, h5⟩ := run_can el o.type B a n c xs hcan ad m k news hl hr h1 hbytes hB
  unfold Oper.wp execOp
  simp only [ho, resolve, invoke, builtin, Sem.run_bind, Sem.run_pure, Result.andThen_ok, List.map_toArray, List.map_cons, List.map_nil, hs, hx, hrun]
  exact h a' c' w' h2 h3 h4 h5
theorem own_cells {w w' : World} {c : Array Value} {e : TypeId} (hb : Below (w.alloc (.cells c e)).heap.size (w.alloc (.cells c e)) w') : ∀ j, w'.cell? ⟨w.heap.size, j, none⟩ = c[j]? :=
  fun j => (hb.cell (p := ⟨w.heap.size, j, none⟩) (by simp)).trans (World.cell?_alloc_at _ _ _ j rfl)
theorem own_frozen {w w' : World} {c : Array Value} {e : TypeId} (hb : Below (w.alloc (.cells c e)).heap.size (w.alloc (.cells c e)) w') : ∀ j, w'.frozen? ⟨w.heap.size, j, none⟩ = false :=
  fun j => (hb.frozen (p := ⟨w.heap.size, j, none⟩) (by simp)).trans (World.frozen?_alloc_at _ _ _ j rfl)

theorem Below.more {w w1 : World} (h : Below w.heap.size w w1) (o : Obj) : Below w.heap.size w (w1.alloc o) := h.alloc h.size o
theorem Below.next {w w1 w2 : World} (h : Below w.heap.size w w1) (k : Below w1.heap.size w1 w2) : Below w.heap.size w w2 := h.trans (k.mono h.size)
theorem Below.put {w w1 : World} {p : Addr} (h : Below w.heap.size w w1) (hp : w.heap.size ≤ p.block) (u : Value) : Below w.heap.size w (w1.setCell p u) := h.setCell hp u
theorem Below.size' {w w1 : World} (h : Below w.heap.size w w1) : w.heap.size ≤ w1.heap.size := h.size
theorem below_drewN {B : Nat} {a w : World} (h : Below B a w) (n : Nat) : Below B a (w.drewN n) := ⟨h.os, h.tape, h.output, h.size, h.block⟩
theorem Below.boxed {w w' : World} {o : Obj} (h : Below (w.alloc o).heap.size (w.alloc o) w') : w.heap.size < w'.heap.size := by have := h.size; simp at this; omega
end Go.Proofs.Ytmihgdjnjfjjcaa

/- How a law's arguments are opened, and the frame that makes a statement out of a walk: for any law of plain data that answers one bool. -/
namespace Go.Proofs.Ytmihgdjnjfjjcaa
open Go.ChangeShapes Go.WideShapes Go.ChangeAt Go.RowKit Go.Deep
set_option maxRecDepth 100000

/-- The cells read as a datum of the type. -/
def Rd {H : Type} (enc : TypeId × Value → H) (P : Program) (w : World) (t : TypeId) (cs : List Value) : Prop :=
  ∃ fuel x, DataW.trod enc P w 0 (fun _ => true) true fuel t cs = some x ∧ ∀ n ∈ x.1.weights P t, n ≤ reachBytes
/-- The value is one of the type, and reads as a datum. -/
def RdV {H : Type} (enc : TypeId × Value → H) (P : Program) (w : World) (t : TypeId) (v : Value) : Prop :=
  (∃ base, Value.okWide P w .any base t v) ∧ Rd enc P w t v.cells.toList
def RdAll {H : Type} (enc : TypeId × Value → H) (P : Program) (w : World) : List TypeId → List Value → Prop
  | [], vs => vs = []
  | t :: ts, vs => ∃ v vs', vs = v :: vs' ∧ RdV enc P w t v ∧ RdAll enc P w ts vs'

section
variable {H : Type} {enc : TypeId × Value → H} {P : Program} {w : World} {t : TypeId}

theorem weights_sub {P : Program} {e : TypeId} {d : DataW H} {k : Nat} : ∀ {l : List (DataW H)}, d ∈ l → k ∈ d.weights P e → k ∈ DataW.weightsAll P e l
  | a :: l, hd, hk => by
    rw [DataW.weightsAll, List.mem_append]
    rcases List.mem_cons.1 hd with rfl | h
    · exact .inl hk
    · exact .inr (weights_sub h hk)
theorem weights_sub_each {P : Program} {k : Nat} {t : TypeId} {d : DataW H} : ∀ {ts : List TypeId} {l : List (DataW H)} {i : Nat}, ts[i]? = some t → l[i]? = some d → k ∈ d.weights P t → k ∈ DataW.weightsEach P ts l
  | t :: ts, a :: l, 0, ht, hd, hk => by
    simp at ht hd
    subst ht; subst hd
    rw [DataW.weightsEach, List.mem_append]
    exact .inl hk
  | _ :: ts, _ :: l, i + 1, ht, hd, hk => by
    rw [DataW.weightsEach, List.mem_append]
    exact .inr (weights_sub_each (i := i) (by simpa using ht) (by simpa using hd) hk)
  | [], _, _, ht, _, _ => by simp at ht
  | _ :: _, [], _, _, hd, _ => by simp at hd
theorem Rd.int {k : IntKind} {cs : List Value} (ht : P.underlying t = some (.int k)) (h : Rd enc P w t cs) : ∃ n, cs = [.int k n] ∧ (Lit.int k n).wf = true := by
  obtain ⟨f, x, h, _⟩ := h
  obtain ⟨n, h1, _, h2⟩ := DataW.trod_int ht h
  exact ⟨n, h1, h2⟩
theorem Rd.bool {cs : List Value} (ht : P.underlying t = some .bool) (h : Rd enc P w t cs) : ∃ b, cs = [.bool b] := by
  obtain ⟨f, x, h, _⟩ := h
  obtain ⟨b, h1, _⟩ := DataW.trod_bool ht h
  exact ⟨b, h1⟩
theorem Rd.slice {e : TypeId} {cs : List Value} (ht : P.underlying t = some (.slice e)) (h : Rd enc P w t cs) :
    cs = [.slice none 0 0] ∨ ∃ a len cap, cs = [.slice (some a) len cap] ∧ len ≤ cap ∧ cap ≤ maxLen ∧ cap * P.bytesOf e ≤ reachBytes ∧
      ∀ i, i < cap → ∃ c, w.cells? 0 (a.add (i * P.cellsOf e)) (P.cellsOf e) = some c ∧ Rd enc P w e c := by
  obtain ⟨f, x, h, hw⟩ := h
  rcases open_slice ht h with ⟨h1, _⟩ | ⟨a, len, cap, m, n, D, Pl, h1, _, hl, hc, hm, rfl, hel⟩
  · exact .inl h1
  · simp only [if_true] at hm
    obtain rfl := hm
    simp only [DataW.weights, ht, List.length_map, List.length_range, List.mem_cons, List.mem_append] at hw
    refine .inr ⟨a, len, m, h1, hl, hc, ?_, fun i hi => ?_⟩
    · have := hw _ (.inl rfl)
      rw [Nat.add_sub_cancel' hl] at this
      exact this
    · obtain ⟨c, hc, hx⟩ := hel i hi
      refine ⟨c, hc, n, _, hx, fun k hk => hw k (.inr ?_)⟩
      by_cases h : i < len
      · exact .inl (weights_sub (List.mem_map.2 ⟨i, by simpa using h, rfl⟩) hk)
      · exact .inr (weights_sub (List.mem_map.2 ⟨i - len, by simp; omega, by rw [Nat.add_sub_cancel' (by omega)]⟩) hk)
theorem Rd.struct {fs : Array Field} {cs : List Value} (ht : P.underlying t = some (.struct fs)) (h : Rd enc P w t cs) :
    cs.length = P.cellsOf t ∧ ∀ (i : Nat) (f : Field), fs[i]? = some f → Rd enc P w f.type ((cs.drop f.offset).take (P.cellsOf f.type)) := by
  obtain ⟨f, x, h, hw⟩ := h
  obtain ⟨xs, n, _, rfl, hl, hx, hel⟩ := DataW.trod_struct ht h
  simp only [DataW.weights, ht] at hw
  refine ⟨hl, fun i f hf => ?_⟩
  have := hel i f hf
  have hi : i < xs.length := by
    rw [hx]
    exact (Array.getElem?_eq_some_iff.1 hf).1
  exact ⟨n, xs[i], by rw [this, List.getElem?_eq_getElem hi], fun k hk => hw k (weights_sub_each (i := i) (by simpa using ⟨f, hf, rfl⟩) (by simp [List.getElem?_eq_getElem hi]) hk)⟩
theorem RdV.int {k : IntKind} {v : Value} (ht : P.underlying t = some (.int k)) (h : RdV enc P w t v) : ∃ n, v = .int k n ∧ (Lit.int k n).wf = true := by
  obtain ⟨⟨_, ho⟩, h⟩ := h
  obtain ⟨n, rfl⟩ := okWide_int ht ho
  obtain ⟨m, h1, h2⟩ := h.int ht
  simp [Value.cells] at h1
  subst h1
  exact ⟨_, rfl, h2⟩
theorem RdV.bool {v : Value} (ht : P.underlying t = some .bool) (h : RdV enc P w t v) : ∃ b, v = .bool b := by
  obtain ⟨⟨_, ho⟩, h⟩ := h
  exact okWide_bool ht ho
theorem RdV.slice {e : TypeId} {v : Value} (ht : P.underlying t = some (.slice e)) (h : RdV enc P w t v) : ∃ a len cap, v = .slice a len cap ∧ Rd enc P w t [.slice a len cap] := by
  obtain ⟨⟨_, ho⟩, h⟩ := h
  obtain ⟨a, len, cap, rfl⟩ := okWide_slice ht ho
  exact ⟨a, len, cap, rfl, h⟩
theorem RdV.struct {fs : Array Field} {v : Value} (ht : P.underlying t = some (.struct fs)) (h : RdV enc P w t v) : ∃ cs : List Value, v = .agg cs.toArray ∧ Rd enc P w t cs := by
  obtain ⟨⟨_, ho⟩, h⟩ := h
  obtain ⟨cs, rfl, _⟩ := okWide_struct ht ho
  exact ⟨cs.toList, by simp, h⟩

/-- A slice opened, its elements as whatever they are told to be. -/
theorem Rd.rows {α : Type} {e : TypeId} {a : Option Addr} {len cap size : Nat} {cells : α → List Value} {good : α → Prop} (hs : ∀ x, (cells x).length = size) (hpos : 0 < size) (ht : P.underlying t = some (.slice e)) (hc : P.cellsOf e = size)
    (each : ∀ cs, Rd enc P w e cs → ∃ x, cs = cells x ∧ good x) (h : Rd enc P w t [.slice a len cap]) :
    ∃ xs : List α, xs.length = len ∧ len ≤ cap ∧ cap ≤ maxLen ∧ cap * P.bytesOf e ≤ reachBytes ∧ (a = none → cap = 0) ∧ (∀ x ∈ xs, good x) ∧ Row w a (xs.flatMap cells) := by
  rcases h.slice ht with h1 | ⟨x, l, c, h1, hl, hm, hby, hel⟩
  · simp at h1
    obtain ⟨rfl, rfl, rfl⟩ := h1
    exact ⟨[], rfl, Nat.le_refl _, Nat.zero_le _, by simp, fun _ => rfl, by simp, .inl rfl⟩
  · simp at h1
    obtain ⟨rfl, rfl, rfl⟩ := h1
    rw [hc] at hel
    have hv : ∀ i, i < len → ∃ y : α, good y ∧ w.cells? 0 (x.add (i * size)) size = some (cells y) := by
      intro i hi
      obtain ⟨cs, hcs, hr⟩ := hel i (by omega)
      obtain ⟨y, rfl, hy⟩ := each _ hr
      exact ⟨y, hy, hcs⟩
    by_cases h0 : len = 0
    · subst h0
      exact ⟨[], rfl, Nat.zero_le _, hm, hby, fun e => by simp at e, by simp, .inl rfl⟩
    · obtain ⟨y0, _⟩ := hv 0 (by omega)
      have : Inhabited α := ⟨y0⟩
      obtain ⟨g, hg⟩ := choose_lt (p := fun i y => good y ∧ w.cells? 0 (x.add (i * size)) size = some (cells y)) hv
      have hcell : ∀ i r, i < len → r < size → w.cell? ((x.add (i * size)).add r) = (cells (g i))[r]? := by
        intro i r hi hr
        obtain ⟨_, _, hall⟩ := World.cells?_some (hg i hi).2
        exact hall r hr
      have hspot : x.spot = none := by
        have h1 := hcell 0 0 (by omega) hpos
        obtain ⟨v, hv⟩ : ∃ v, (cells (g 0))[0]? = some v := by
          cases hh : (cells (g 0))[0]? with
          | some v => exact ⟨v, rfl⟩
          | none => rw [List.getElem?_eq_none_iff, hs] at hh; omega
        have := World.cell?_spot (h1.trans hv)
        simpa [Addr.add] using this
      obtain ⟨b, o, spot⟩ := x
      simp only at hspot
      subst hspot
      refine ⟨(List.range len).map g, by simp, hl, hm, hby, fun e => by simp at e, ?_, .inr ⟨b, o, rfl, fun j hj => ?_⟩⟩
      · intro y hy
        obtain ⟨i, hi, rfl⟩ := List.mem_map.1 hy
        exact (hg i (by simpa using hi)).1
      · have hlen := flatMap_len hs ((List.range len).map g)
        rw [List.length_map, List.length_range] at hlen
        have hj2 : j < len * size := by rw [← hlen]; exact hj
        have hi : j / size < len := Nat.div_lt_of_lt_mul (by rw [Nat.mul_comm]; exact hj2)
        have hr : j % size < size := Nat.mod_lt _ hpos
        have hjj : j / size * size + j % size = j := by rw [Nat.mul_comm]; exact Nat.div_add_mod j size
        have h1 := flatMap_at hs (xs := (List.range len).map g) (i := j / size) hr
        rw [hjj] at h1
        have h2 := hcell (j / size) (j % size) hi hr
        have h3 : ((⟨b, o, none⟩ : Addr).add (j / size * size)).add (j % size) = ⟨b, o + j, none⟩ := by
          rw [add_add, hjj]
          unfold Addr.add
          by_cases hz : j = 0
          · subst hz; simp
          · simp [hz]
        rw [h3] at h2
        rw [h2, ← List.getElem?_eq_getElem hj, h1, List.getElem?_map, List.getElem?_range hi]
        rfl

/-- A slice of one-cell numbers, opened. -/
theorem Rd.ints {e : TypeId} {k : IntKind} {a : Option Addr} {len cap : Nat} (ht : P.underlying t = some (.slice e)) (he : P.underlying e = some (.int k)) (hc : P.cellsOf e = 1) (h : Rd enc P w t [.slice a len cap]) :
    ∃ zs : List Int, zs.length = len ∧ len ≤ cap ∧ cap ≤ maxLen ∧ cap * P.bytesOf e ≤ reachBytes ∧ (∀ n ∈ zs, (Lit.int k n).wf = true) ∧ (a = none → cap = 0) ∧ Row w a (zs.map (Value.int k)) := by
  rcases h.slice ht with h1 | ⟨x, l, c, h1, hl, hm, hby, hel⟩
  · simp at h1
    obtain ⟨rfl, rfl, rfl⟩ := h1
    exact ⟨[], rfl, Nat.le_refl _, Nat.zero_le _, by simp, by simp, fun _ => rfl, .inl rfl⟩
  · simp at h1
    obtain ⟨rfl, rfl, rfl⟩ := h1
    rw [hc] at hel
    have hv : ∀ i, i < len → ∃ n, (Lit.int k n).wf = true ∧ w.cell? (x.add i) = some (.int k n) := by
      intro i hi
      obtain ⟨cs, hcs, hr⟩ := hel i (by omega)
      obtain ⟨n, rfl, hw⟩ := hr.int he
      refine ⟨n, hw, ?_⟩
      rw [Nat.mul_one] at hcs
      simp only [World.cells?, Nat.zero_le, if_true, List.range_succ, List.range_zero, List.nil_append] at hcs
      have he : (x.add i).add 0 = x.add i := by simp [Addr.add]
      simp only [List.mapM_cons, List.mapM_nil, he] at hcs
      revert hcs
      cases w.cell? (x.add i) with
      | none => intro h; cases h
      | some v => intro h; simpa using h
    obtain ⟨g, hg⟩ := choose_lt (p := fun i n => (Lit.int k n).wf = true ∧ w.cell? (x.add i) = some (.int k n)) hv
    refine ⟨(List.range len).map g, by simp, hl, hm, hby, ?_, fun e => by simp at e, ?_⟩
    · intro n hn
      obtain ⟨i, hi, rfl⟩ := List.mem_map.1 hn
      exact (hg i (by simpa using hi)).1
    · by_cases h0 : len = 0
      · subst h0; exact .inl rfl
      · have hs := World.cell?_spot (hg 0 (by omega)).2
        have hspot : x.spot = none := by simpa [Addr.add] using hs
        obtain ⟨b, o, spot⟩ := x
        simp only at hspot
        subst hspot
        refine .inr ⟨b, o, rfl, fun i hi => ?_⟩
        simp only [List.length_map, List.length_range] at hi
        have := (hg i hi).2
        by_cases hi0 : i = 0
        · subst hi0; simpa [Addr.add] using this
        · simpa [Addr.add, hi0] using this
/-- A slice of bytes, opened. -/
theorem Rd.bytes {e : TypeId} {a : Option Addr} {len cap : Nat} (ht : P.underlying t = some (.slice e)) (he : P.underlying e = some (.int .u8)) (hc : P.cellsOf e = 1) (h : Rd enc P w t [.slice a len cap]) :
    ∃ l : List UInt8, l.length = len ∧ len ≤ cap ∧ cap ≤ maxLen ∧ cap * P.bytesOf e ≤ reachBytes ∧ (a = none → cap = 0) ∧ RowB w a l := by
  obtain ⟨zs, h1, h2, h3, hby, h4, h5, h6⟩ := h.ints ht he hc
  refine ⟨zs.map fun z => UInt8.ofNat z.toNat, by simpa using h1, h2, h3, hby, h5, ?_⟩
  have : (zs.map fun z => UInt8.ofNat z.toNat).map B = zs.map (Value.int .u8) := by
    rw [List.map_map]
    refine List.map_congr_left fun z hz => ?_
    obtain ⟨b0, b1⟩ := bounds_u8 (h4 z hz)
    simp only [Function.comp, B]
    congr 1
    rw [UInt8.toNat_ofNat']
    omega
  unfold RowB
  rw [this]
  exact h6
end

theorem RdAll.of {H : Type} {enc : TypeId × Value → H} {P : Program} {w : World} {base : Nat} : ∀ {ts : List TypeId} {vs : List Value} {ds : List (DataW H)} {p : List MemPlace}, DataW.TrodAll enc P w 0 (fun _ => true) true ts vs ds p →
    (∀ (j : Nat) t v, ts[j]? = some t → vs[j]? = some v → Value.okWide P w .any base t v) → (∀ n ∈ DataW.weightsEach P ts ds, n ≤ reachBytes) → RdAll enc P w ts vs
  | [], [], [], _, _, _, _ => rfl
  | t :: _, v :: vs, _ :: _, _, ⟨_, _, ⟨fuel, hx⟩, h, _⟩, hok, hw =>
    ⟨v, vs, rfl, ⟨⟨base, hok 0 t v rfl rfl⟩, fuel, _, hx, fun n hn => hw n (by rw [DataW.weightsEach, List.mem_append]; exact .inl hn)⟩,
      RdAll.of h (fun j t v ht hv => hok (j + 1) t v ht hv) (fun n hn => hw n (by rw [DataW.weightsEach, List.mem_append]; exact .inr hn))⟩

theorem trodAll_stays {H : Type} {enc : TypeId × Value → H} {P : Program} {W W' : World} (hl : laidOutB P = true) (hb : Below W.heap.size W W') : ∀ {ts : List TypeId} {vs : List Value} {ds : List (DataW H)} {p : List MemPlace},
    (∀ t ∈ ts, P.readableRec t = true ∧ t < P.types.size) → DataW.TrodAll enc P W 0 (fun _ => true) true ts vs ds p → DataW.TrodAll enc P W' 0 (fun b => decide (b < W.heap.size)) true ts vs ds p
  | [], [], [], _, _, h => h
  | t :: ts, v :: vs, d :: ds, _, hall, ⟨p, q, hx, h, rfl⟩ =>
    ⟨_, _, Below.trod hl (hall t (by simp)).1 (hall t (by simp)).2 hx hb (by obtain ⟨m, hm⟩ := hx; exact DataW.trod_lt m _ _ _ hm), trodAll_stays hl hb (fun t ht => hall t (by simp [ht])) h, rfl⟩

theorem trodAll_length {H : Type} {enc : TypeId × Value → H} {P : Program} {W : World} {b : Nat} {sp : Nat → Bool} {hd : Bool} : ∀ {ts : List TypeId} {vs : List Value} {ds : List (DataW H)} {p : List MemPlace},
    DataW.TrodAll enc P W b sp hd ts vs ds p → ds.length = ts.length
  | [], [], [], _, _ => rfl
  | _ :: _, _ :: _, _ :: _, _, ⟨_, _, _, h, _⟩ => congrArg (· + 1) (trodAll_length h)

/-- THE FRAME: from the walk to the lifted row. -/
theorem law_lifted {H : Type} {enc : TypeId × Value → H} {C : Checked} {os : Os} {f : FuncId} {fn : Func} {s : ChangeSpec} {boolT : TypeId}
    (own : ownKnob C.prog.godebug = none) (started : os.Started) (noInit : C.prog.inits.idxOf? f = none) (hfn : C.prog.funcs[f]? = some fn)
    (witness : ∃ (w : World) (tape : Tape) (i : Input), w.os = os ∧ (w.forCall tape i).Shaped C.prog ∧ i.vars = [] ∧ Input.okWide C.prog (w.forCall tape i) .any w.heap.size f i ∧
      s.pre6 enc C.prog fn [] false (w.forCall tape i).memory i.args ∧ ({} : Assume).holds C.prog (lone (Frame.enter C.prog f i.args .normal) [] (w.forCall tape i)))
    (hvars : s.vars = []) (hres : fn.resultTypes = #[boolT]) (hbool : C.prog.underlying boolT = some .bool) (hlaid : laidOutB C.prog = true)
    (hpar0 : (fn.params.toList.all fun t => C.prog.readableRec t && decide (t < C.prog.types.size)) = true)
    (hspec : ∀ ds : List (DataW H), ds.length = fn.params.toList.length → s.fn H ds = { results := [.lit (.bool true)], args := ds })
    (walk : ∀ (W : World) (vs : List Value), RdAll enc C.prog W fn.params.toList vs → Calls C.prog f vs.toArray W fun e W' => e = .returned (.bool true) ∧ Below W.heap.size W W') :
    ReturnsInHanded {} C os f .any (s.pre6 enc C.prog fn [] false) (s.post enc C.prog fn false true false false) := by
  have hpar : ∀ t ∈ fn.params.toList, C.prog.readableRec t = true ∧ t < C.prog.types.size := fun t ht => by
    have := List.all_eq_true.1 hpar0 t ht
    simpa using this
  refine returnsInHanded_of_change_sized own started noInit hfn witness ?_
  intro W base args ds gs before hval hW hcnd hsz _
  have hW' := hW
  obtain ⟨p, q, hA, hV, rfl, hfz, hnd⟩ := hW
  rw [hvars] at hV
  obtain ⟨rfl, rfl⟩ : gs = [] ∧ q = [] := by
    cases gs with
    | nil => exact ⟨rfl, hV⟩
    | cons g gs => exact hV.elim
  have hr := RdAll.of (base := base) hA (fun j t v ht hv => hval j t v (by simpa using ht) (by simpa using hv)) (fun n hn => by
    have hv0 : s.plain.varTypes C.prog = [] := by unfold DataSpec.varTypes ChangeSpec.plain; simp [hvars]
    rw [hv0, List.append_nil, List.append_nil] at hsz
    simpa using List.all_eq_true.1 hsz n hn)
  have hw := walk W args.toList hr
  rw [Array.toArray_toList] at hw
  refine hw.mono fun e W' ⟨he, hb⟩ => ?_
  have hs := hspec ds (trodAll_length hA)
  refine ⟨_, he, ds, [], _, [], p, [], hW', ?_, ?_, ?_, hb.frame _, fun h => by cases h⟩
  · rw [List.append_nil, hs, hres]
    exact trodAll_mk1 (shut_bool hbool _)
  · rw [List.append_nil, hs]
    exact trodAll_stays hlaid hb hpar hA
  · rw [List.append_nil, hs, hvars]; rfl

theorem own : ownKnob Try.prog.godebug = none := by kernel_rfl
theorem laidOut : laidOutB Try.prog = true := by kernel_rfl
end Go.Proofs.Ytmihgdjnjfjjcaa

/- Numbers as bytes, things written and read: plain functions, no program in sight. -/
namespace Go.Proofs.Ytmihgdjnjfjjcaa

/-! Numbers as bytes, the greatest first. -/
def beN : Nat → Nat → List UInt8
  | 0, _ => []
  | k + 1, u => UInt8.ofNat (u / 256 ^ k % 256) :: beN k u
def beVal (l : List UInt8) : Nat := l.foldl (fun a b => a * 256 + b.toNat) 0
theorem beN_length : ∀ k u, (beN k u).length = k
  | 0, _ => rfl
  | k + 1, u => by rw [beN, List.length_cons, beN_length k u]
theorem foldl_be : ∀ (l : List UInt8) (a : Nat), l.foldl (fun a b => a * 256 + b.toNat) a = a * 256 ^ l.length + beVal l
  | [], a => by simp [beVal]
  | b :: l, a => by
    unfold beVal
    rw [List.foldl_cons, List.foldl_cons, foldl_be l, foldl_be l (0 * 256 + b.toNat), List.length_cons, Nat.pow_succ, Nat.zero_mul, Nat.zero_add, Nat.add_mul, Nat.mul_assoc, Nat.mul_comm 256]
    omega
theorem beVal_cons (b : UInt8) (l : List UInt8) : beVal (b :: l) = b.toNat * 256 ^ l.length + beVal l := by
  show (b :: l).foldl _ 0 = _
  rw [List.foldl_cons, foldl_be, Nat.zero_mul, Nat.zero_add]
theorem beVal_lt : ∀ l : List UInt8, beVal l < 256 ^ l.length
  | [] => by simp [beVal]
  | b :: l => by
    rw [beVal_cons, List.length_cons, Nat.pow_succ]
    have h1 := beVal_lt l
    have h2 := b.toNat_lt
    have h3 : b.toNat * 256 ^ l.length ≤ 255 * 256 ^ l.length := Nat.mul_le_mul_right _ (by omega)
    omega
theorem beVal_snoc (l : List UInt8) (b : UInt8) : beVal (l ++ [b]) = beVal l * 256 + b.toNat := by
  unfold beVal; rw [List.foldl_append]; rfl
theorem beVal_beN : ∀ k u, beVal (beN k u) = u % 256 ^ k
  | 0, u => by simp [beN, beVal, Nat.mod_one]
  | k + 1, u => by
    have : u / 256 ^ k % 256 % 2 ^ 8 = u / 256 ^ k % 256 := Nat.mod_eq_of_lt (Nat.mod_lt _ (by decide))
    rw [beN, beVal_cons, beN_length, beVal_beN k u, UInt8.toNat_ofNat', this, Nat.mod_pow_succ, Nat.mul_comm, Nat.add_comm]
theorem beN_add : ∀ k a v, beN k (a * 256 ^ k + v) = beN k v
  | 0, _, _ => rfl
  | k + 1, a, v => by
    have e : a * 256 ^ (k + 1) = a * 256 * 256 ^ k := by rw [Nat.pow_succ, Nat.mul_comm (256 ^ k), Nat.mul_assoc]
    rw [beN, beN, e, beN_add k, Nat.mul_comm (a * 256), Nat.mul_add_div (Nat.pow_pos (by decide)), Nat.mul_comm a, Nat.mul_add_mod]
theorem beN_beVal : ∀ l : List UInt8, beN l.length (beVal l) = l
  | [] => rfl
  | b :: l => by
    rw [List.length_cons, beN, beVal_cons, beN_add, beN_beVal l, Nat.mul_comm, Nat.mul_add_div (Nat.pow_pos (by decide)), Nat.div_eq_of_lt (beVal_lt l), Nat.add_zero]
    have h2 := b.toNat_lt
    rw [Nat.mod_eq_of_lt (by omega)]
    simp
def u64 (n : Int) : Nat := (n % 18446744073709551616).toNat
def i64 (u : Nat) : Int := if u < 9223372036854775808 then u else u - 18446744073709551616
def InI (n : Int) : Prop := -9223372036854775808 ≤ n ∧ n < 9223372036854775808
theorem i64_u64 {n : Int} (h : InI n) : i64 (u64 n) = n := by
  unfold InI at h
  unfold i64 u64
  split <;> omega
theorem u64_i64 {u : Nat} (h : u < 18446744073709551616) : u64 (i64 u) = u := by
  unfold i64 u64
  split <;> omega
theorem i64_in {u : Nat} (h : u < 18446744073709551616) : InI (i64 u) := by
  unfold i64 InI
  split <;> omega
theorem u64_lt (n : Int) : u64 n < 18446744073709551616 := by unfold u64; omega
def be8 (n : Int) : List UInt8 := beN 8 (u64 n)
def num8 (l : List UInt8) : Int := i64 (beVal l)
theorem be8_length (n : Int) : (be8 n).length = 8 := beN_length _ _
theorem num8_be8 {n : Int} (h : InI n) : num8 (be8 n) = n := by
  unfold num8 be8
  rw [beVal_beN, Nat.mod_eq_of_lt (by have := u64_lt n; omega), i64_u64 h]
theorem be8_num8 {l : List UInt8} (h : l.length = 8) : be8 (num8 l) = l := by
  unfold num8 be8
  have h1 := beVal_lt l
  rw [h] at h1
  rw [u64_i64 (by omega)]
  have := beN_beVal l
  rw [h] at this; exact this
theorem num8_in {l : List UInt8} (h : l.length = 8) : InI (num8 l) := by
  have h1 := beVal_lt l
  rw [h] at h1
  exact i64_in (by omega)
def kindB (k : Int) : UInt8 := UInt8.ofNat (k % 256).toNat
def kindI (b : UInt8) : Int := if b.toNat < 128 then b.toNat else b.toNat - 256
theorem kindI_kindB {k : Int} (h : -128 ≤ k ∧ k < 128) : kindI (kindB k) = k := by
  unfold kindI kindB
  rw [UInt8.toNat_ofNat']
  split <;> omega
theorem kindB_kindI (b : UInt8) : kindB (kindI b) = b := by
  have h := b.toNat_lt
  unfold kindI kindB
  have : ((if b.toNat < 128 then (b.toNat : Int) else b.toNat - 256) % 256).toNat = b.toNat := by split <;> omega
  rw [this]; simp
theorem kindI_in (b : UInt8) : -128 ≤ kindI b ∧ kindI b < 128 := by
  have h := b.toNat_lt
  unfold kindI; split <;> omega
def truthB (x : Bool) : UInt8 := if x then 1 else 0

/-! Reading: what is there, or the first byte that cannot stand there. -/
abbrev Got (α : Type) := Except Nat (α × Nat)
def bindP {α β : Type} (x : Got α) (f : α → Nat → Got β) : Got β := match x with | .error e => .error e | .ok (a, q) => f a q
def needP (k : Nat) (l : List UInt8) (p : Nat) : Got (List UInt8) := if l.length - p < k then .error l.length else .ok ((l.drop p).take k, p + k)
def numP (l : List UInt8) (p : Nat) : Got Int := bindP (needP 8 l p) fun b q => .ok (num8 b, q)
def smallP (l : List UInt8) (p : Nat) : Got UInt8 := bindP (needP 1 l p) fun b q => .ok (b.headD 0, q)
def kindP (l : List UInt8) (p : Nat) : Got Int := bindP (smallP l p) fun b q => .ok (kindI b, q)
def truthP (l : List UInt8) (p : Nat) : Got Bool := bindP (smallP l p) fun b q => if 1 < b.toNat then .error (q - 1) else .ok (b.toNat == 1, q)
def countP (size : Nat) (l : List UInt8) (p : Nat) : Got Nat := bindP (numP l p) fun n q => if n < 0 ∨ n > ((l.length - q) / size : Nat) then .error p else .ok (n.toNat, q)
def bytesP (l : List UInt8) (p : Nat) : Got (List UInt8) := bindP (countP 1 l p) fun n q => needP n l q
def timesP {α : Type} (one : List UInt8 → Nat → Got α) : Nat → List UInt8 → Nat → Got (List α)
  | 0, _, p => .ok ([], p)
  | n + 1, l, p => bindP (one l p) fun x q => bindP (timesP one n l q) fun xs q => .ok (x :: xs, q)
def listP {α : Type} (size : Nat) (one : List UInt8 → Nat → Got α) (l : List UInt8) (p : Nat) : Got (List α) := bindP (countP size l p) fun n q => timesP one n l q
def readP {α : Type} (zero : α) (one : List UInt8 → Nat → Got α) (l : List UInt8) : α × Nat × Int :=
  if 1048576 < l.length then (zero, 0, 3)
  else match one l 0 with
    | .error f => (zero, f, 50)
    | .ok (x, q) => if q < l.length then (zero, q, 50) else (x, 0, 0)

/-! One written thing is read as it was, whatever stands ahead and behind. -/
def Reads {α : Type} (one : List UInt8 → Nat → Got α) (x : α) (b : List UInt8) : Prop := ∀ pre post : List UInt8, one (pre ++ b ++ post) pre.length = .ok (x, pre.length + b.length)
/-- What is read was written so. -/
def Wrote1 {α : Type} (one : List UInt8 → Nat → Got α) (enc : α → List UInt8) (good : α → Prop) : Prop := ∀ (l : List UInt8) (p : Nat) (x : α) (q : Nat), p ≤ l.length → one l p = .ok (x, q) → p ≤ q ∧ q ≤ l.length ∧ (l.drop p).take (q - p) = enc x ∧ good x
theorem need_reads (b : List UInt8) : Reads (needP b.length) b b := fun pre post => by
  unfold needP
  rw [if_neg (by simp)]
  simp
theorem bind_reads {α β : Type} {o : List UInt8 → Nat → Got α} {f : α → List UInt8 → Nat → Got β} {x : α} {y : β} {b c : List UInt8} (h : Reads o x b) (h2 : Reads (f x) y c) : Reads (fun l p => bindP (o l p) fun a q => f a l q) y (b ++ c) := fun pre post => by
  have h1 := h pre (c ++ post)
  have h3 := h2 (pre ++ b) post
  simp only [List.append_assoc] at h1 h3 ⊢
  simp only [h1, bindP]
  rw [List.length_append] at h3
  rw [h3, List.length_append, Nat.add_assoc]
theorem pure_reads {α : Type} (x : α) : Reads (fun _ p => .ok (x, p)) x [] := fun pre post => by simp
theorem map_reads {α β : Type} {o : List UInt8 → Nat → Got α} {g : α → β} {x : α} {b : List UInt8} (h : Reads o x b) : Reads (fun l p => bindP (o l p) fun a q => .ok (g a, q)) (g x) b := by
  have := bind_reads (f := fun a _ p => .ok (g a, p)) h (pure_reads (g x))
  rw [List.append_nil] at this; exact this
theorem num_reads {n : Int} (h : InI n) : Reads numP n (be8 n) := by
  have h1 := need_reads (be8 n)
  rw [be8_length] at h1
  have h2 := map_reads (g := num8) h1
  rw [num8_be8 h] at h2
  exact h2
theorem small_reads (b : UInt8) : Reads smallP b [b] := map_reads (g := fun b : List UInt8 => b.headD 0) (need_reads [b])
theorem kind_reads {k : Int} (h : -128 ≤ k ∧ k < 128) : Reads kindP k [kindB k] := by
  have h2 := map_reads (g := kindI) (small_reads (kindB k))
  rw [kindI_kindB h] at h2
  exact h2
theorem truth_reads (x : Bool) : Reads truthP x [truthB x] := fun pre post => by
  have h := small_reads (truthB x) pre post
  unfold truthP
  rw [h]
  cases x <;> rfl
theorem count_reads {size n : Nat} {c : List UInt8} (hn : n < 9223372036854775808) (hs : 0 < size) (hc : n * size ≤ c.length) (pre post : List UInt8) : countP size (pre ++ be8 n ++ (c ++ post)) pre.length = .ok (n, pre.length + 8) := by
  have h := num_reads (n := n) (by unfold InI; omega) pre (c ++ post)
  unfold countP
  rw [h]
  simp only [bindP]
  rw [be8_length, if_neg]
  · simp
  · rw [not_or]
    refine ⟨by omega, ?_⟩
    have : n ≤ ((pre ++ be8 ↑n ++ (c ++ post)).length - (pre.length + 8)) / size := by
      rw [Nat.le_div_iff_mul_le hs]
      simp only [List.length_append, be8_length]
      omega
    omega
theorem bytes_reads {d : List UInt8} (h : d.length < 9223372036854775808) : Reads bytesP d (be8 d.length ++ d) := fun pre post => by
  have h1 := count_reads (size := 1) (n := d.length) (c := d) h (by decide) (by omega) pre post
  have h2 := need_reads d (pre ++ be8 d.length) post
  unfold bytesP
  simp only [List.append_assoc] at h1 h2 ⊢
  rw [h1]
  simp only [bindP]
  rw [List.length_append, be8_length] at h2
  rw [h2, List.length_append, be8_length]; simp [Nat.add_assoc]
theorem times_reads {α : Type} {one : List UInt8 → Nat → Got α} {enc : α → List UInt8} : ∀ {xs : List α}, (∀ x ∈ xs, Reads one x (enc x)) → Reads (timesP one xs.length) xs (xs.flatMap enc)
  | [], _ => pure_reads []
  | x :: xs, h => by
    have h1 := h x (List.mem_cons_self ..)
    have h2 := times_reads (xs := xs) fun y hy => h y (List.mem_cons_of_mem _ hy)
    exact bind_reads (f := fun a l q => bindP (timesP one xs.length l q) fun ys q => .ok (a :: ys, q)) h1 (map_reads (g := fun ys => x :: ys) h2)
theorem list_reads {α : Type} {one : List UInt8 → Nat → Got α} {enc : α → List UInt8} {size : Nat} {xs : List α} (hs : 0 < size) (hl : xs.length < 9223372036854775808) (h : ∀ x ∈ xs, Reads one x (enc x)) (hz : ∀ x ∈ xs, size ≤ (enc x).length) :
    Reads (listP size one) xs (be8 xs.length ++ xs.flatMap enc) := fun pre post => by
  have hlen : xs.length * size ≤ (xs.flatMap enc).length := by
    induction xs with
    | nil => simp
    | cons x xs ih =>
      have h1 := hz x (List.mem_cons_self ..)
      have h2 := ih (by rw [List.length_cons] at hl; omega) (fun y hy => h y (List.mem_cons_of_mem _ hy)) (fun y hy => hz y (List.mem_cons_of_mem _ hy))
      rw [List.flatMap_cons, List.length_append, List.length_cons, Nat.succ_mul]; omega
  have h1 := count_reads (size := size) (n := xs.length) (c := xs.flatMap enc) hl hs hlen pre post
  have h2 := times_reads h (pre ++ be8 xs.length) post
  unfold listP
  simp only [List.append_assoc] at h1 h2 ⊢
  rw [h1]
  simp only [bindP]
  rw [List.length_append, be8_length] at h2
  rw [h2, List.length_append, be8_length]; simp [Nat.add_assoc]
/-! And back. -/
theorem need_wrote (k : Nat) : Wrote1 (needP k) (fun b => b) (fun b => b.length = k) := fun l p x q hp h => by
  unfold needP at h
  split at h
  · cases h
  · rename_i hk
    simp only [Except.ok.injEq, Prod.mk.injEq] at h
    obtain ⟨rfl, rfl⟩ := h
    refine ⟨by omega, by omega, by rw [Nat.add_sub_cancel_left], ?_⟩
    show (List.take k (List.drop p l)).length = k
    rw [List.length_take, List.length_drop]; omega
theorem take_two {l : List UInt8} {p q r : Nat} (h1 : p ≤ q) (h2 : q ≤ r) : (l.drop p).take (r - p) = (l.drop p).take (q - p) ++ (l.drop q).take (r - q) := by
  have e : r - p = (q - p) + (r - q) := by omega
  rw [e, List.take_add, List.drop_drop]
  congr 3; omega
theorem bind_wrote {α β : Type} {o : List UInt8 → Nat → Got α} {f : α → List UInt8 → Nat → Got β} {e1 : α → List UInt8} {g1 : α → Prop} {e2 : α → β → List UInt8} {g2 : α → β → Prop} (h : Wrote1 o e1 g1) (h2 : ∀ a, g1 a → Wrote1 (f a) (e2 a) (g2 a))
    {l : List UInt8} {p q : Nat} {y : β} (hp : p ≤ l.length) (hr : (bindP (o l p) fun a q => f a l q) = .ok (y, q)) : ∃ a, g1 a ∧ p ≤ q ∧ q ≤ l.length ∧ (l.drop p).take (q - p) = e1 a ++ e2 a y ∧ g2 a y := by
  cases ho : o l p with
  | error e => rw [ho] at hr; cases hr
  | ok v =>
    obtain ⟨a, m⟩ := v
    rw [ho] at hr
    simp only [bindP] at hr
    obtain ⟨i1, i2, i3, i4⟩ := h l p a m hp ho
    obtain ⟨j1, j2, j3, j4⟩ := h2 a i4 l m y q i2 hr
    exact ⟨a, i4, by omega, j2, by rw [take_two i1 j1, i3, j3], j4⟩
theorem pure_wrote {α : Type} (x : α) : Wrote1 (fun _ p => .ok (x, p)) (fun _ => []) (fun y => y = x) := fun l p y q hp h => by
  simp only [Except.ok.injEq, Prod.mk.injEq] at h
  obtain ⟨rfl, rfl⟩ := h
  simp [hp]
end Go.Proofs.Ytmihgdjnjfjjcaa

/- How things of a type lie in memory, whatever the type: rows of them that are read, rows of the call's own that are written. -/
namespace Go.Proofs.Ytmihgdjnjfjjcaa
open Go.ChangeShapes Go.WideShapes Go.ChangeAt Go.RowKit
set_option maxRecDepth 100000

structure Lay (P : Program) (e : TypeId) (α : Type) where
  cells : α → List Value
  val : α → Value
  size : Nat
  bytes : Nat
  len : ∀ x, (cells x).length = size
  pos : 0 < size
  bpos : 0 < bytes
  one : ∀ x, ∀ u ∈ cells x, u.oneCell' = true
  info : (P.info? e).map (fun i => (i.zero.map fun z => (z.cells.size, z.cells.all (·.oneCell')), i.size, i.bytes)) = some (some (size, true), size, bytes)
  load : ∀ (w : World) b o x, w.rangeAt b o (cells x) → (Instr.loadAt e (.pointer (some ⟨b, o, none⟩))).run P w = .ok (val x) w
  store : ∀ (w : World) b o x, w.there b o size → (Instr.storeAt e (.pointer (some ⟨b, o, none⟩)) (val x)).run P w = .ok () (w.setCells b o (cells x))

theorem size_of_info {P : Program} {e : TypeId} {size bytes : Nat} (h : (P.info? e).map (fun i => (i.zero.map fun z => (z.cells.size, z.cells.all (·.oneCell')), i.size, i.bytes)) = some (some (size, true), size, bytes)) : (P.info? e).map (·.size) = some size := by
  cases hi : P.info? e with
  | none => rw [hi] at h; cases h
  | some i => rw [hi] at h; simp at h; simp [h.2.1]

/-- A struct's lay. -/
def Lay.struct {P : Program} {e : TypeId} {α : Type} (cells : α → List Value) (size bytes : Nat) (len : ∀ x, (cells x).length = size) (pos : 0 < size) (bpos : 0 < bytes) (one : ∀ x, ∀ u ∈ cells x, u.oneCell' = true)
    (info : (P.info? e).map (fun i => (i.zero.map fun z => (z.cells.size, z.cells.all (·.oneCell')), i.size, i.bytes)) = some (some (size, true), size, bytes)) (d : TypeDesc) (hu : P.underlying e = some d) (hd : d.isRow = true) : Lay P e α where
  cells := cells
  val x := .agg (cells x).toArray
  size := size
  bytes := bytes
  len := len
  pos := pos
  bpos := bpos
  one := one
  info := info
  load w b o x h := run_loadAt_mid w b o e (cells x) d h hu hd (by rw [len]; exact size_of_info info)
  store w b o x h := by
    have := run_storeAt_mid (P := P) w b o e (cells x).toArray (by simpa [len] using h) (by simpa [len] using size_of_info info) (all_oneCell_toArray (one x))
    simpa using this

section
variable {P : Program} {e : TypeId} {α : Type} (L : Lay P e α)

/-- Things lie in a row. -/
abbrev LRow (w : World) (a : Option Addr) (xs : List α) : Prop := Row w a (xs.flatMap L.cells)
theorem Lay.length (xs : List α) : (xs.flatMap L.cells).length = xs.length * L.size := flatMap_len L.len xs
theorem Lay.ones (xs : List α) : ∀ u ∈ xs.flatMap L.cells, u.oneCell' = true := by
  intro u hu
  obtain ⟨x, _, hx⟩ := List.mem_flatMap.1 hu
  exact L.one x u hx
theorem Lay.at (xs : List α) {k r : Nat} (hr : r < L.size) : (xs.flatMap L.cells)[k * L.size + r]? = (xs[k]?).bind fun x => (L.cells x)[r]? := flatMap_at L.len hr
theorem Lay.parts : ∃ i z, P.info? e = some i ∧ i.zero = some z ∧ i.size = L.size ∧ i.bytes = L.bytes ∧ z.cells.size = L.size ∧ z.cells.all (·.oneCell') = true := by
  have h := L.info
  cases hi : P.info? e with
  | none => rw [hi] at h; cases h
  | some i =>
    rw [hi] at h
    cases hz : i.zero with
    | none => simp [hz] at h
    | some z =>
      simp only [hz, Option.map_some, Option.some.injEq, Prod.mk.injEq] at h
      exact ⟨i, z, rfl, hz, h.2.1, h.2.2, h.1.1, h.1.2⟩
theorem Lay.elem {t : TypeId} (ht : P.underlying t = some (.slice e)) : Elem P t e L.size L.bytes where
  under := ht
  info := let ⟨i, z, h1, h2, h3, h4, h5, _⟩ := L.parts; ⟨i, z, h1, h2, h3, h4, h5⟩
  pos := L.pos
  bpos := L.bpos
variable {L}
theorem LRow.range {w : World} {a : Option Addr} {xs : List α} (h : LRow L w a xs) {k : Nat} (hk : k < xs.length) :
    ∃ b o, a = some ⟨b, o, none⟩ ∧ ∀ w', Below w.heap.size w w' → w'.rangeAt b (o + k * L.size) (L.cells xs[k]) := by
  have h0 : 0 < (xs.flatMap L.cells).length := by rw [L.length]; exact Nat.mul_pos (by omega) L.pos
  obtain ⟨b, o, rfl, hc⟩ := Row.at h h0
  have hlt := Row.lt (w := w) (b := b) (o := o) (.inr ⟨b, o, rfl, hc⟩) (List.length_pos_iff.1 h0)
  refine ⟨b, o, rfl, fun w' hb j v hv => ?_⟩
  have hj : j < L.size := by have := (List.getElem?_eq_some_iff.1 hv).1; rw [L.len] at this; exact this
  have h1 := L.at xs (k := k) hj
  rw [List.getElem?_eq_getElem hk, Option.bind_some, hv] at h1
  obtain ⟨h2, h3⟩ := List.getElem?_eq_some_iff.1 h1
  rw [hb.cell (p := ⟨b, o + k * L.size + j, none⟩) hlt, Nat.add_assoc, hc _ h2, h3]
theorem LRow.below {w w' : World} {a : Option Addr} {xs : List α} (h : LRow L w a xs) (hb : Below w.heap.size w w') : LRow L w' a xs := Row.below h hb
theorem LRow.take {w : World} {a : Option Addr} {xs : List α} (h : LRow L w a xs) (k : Nat) : LRow L w a (xs.take k) := by
  show Row _ _ _
  rw [← flatMap_take L.len]; exact Row.take h _
theorem LRow.drop {w : World} {b o : Nat} {xs : List α} (h : LRow L w (some ⟨b, o, none⟩) xs) (k : Nat) : LRow L w (some ⟨b, o + k * L.size, none⟩) (xs.drop k) := by
  show Row _ _ _
  rw [← flatMap_drop L.len]; exact Row.drop h _

theorem wpList_load_lay {ops : Array Oper} {rest : List Oper} {op : Oper} {a : Act} {w : World} {Q : Exit → Act → World → Prop} (L : Lay P e α) (hgd : op.guard = none) (x : Operand) (ho : op.op = .load e x)
    (b o : Nat) (hx : a.eval x = .pointer (some ⟨b, o, none⟩)) (y : α) (hc : w.rangeAt b o (L.cells y)) (h : wpList P ops Q rest (a.put op.dst (L.val y)) w) : wpList P ops Q (op :: rest) a w :=
  wpList_plain hgd fun K hK => by
    unfold Oper.wp execOp
    simp only [ho, hx, Sem.run_bind, Sem.run_pure, Result.andThen_ok, L.load w b o y hc]
    exact hK _ _ h
theorem wpList_store_lay {ops : Array Oper} {rest : List Oper} {op : Oper} {a : Act} {w : World} {Q : Exit → Act → World → Prop} (L : Lay P e α) (hgd : op.guard = none) (x y : Operand) (ho : op.op = .store e x y)
    (b o : Nat) (z : α) (hx : a.eval x = .pointer (some ⟨b, o, none⟩)) (hy : a.eval y = L.val z) (ht : w.there b o L.size) (h : wpList P ops Q rest (a.put op.dst undef) (w.setCells b o (L.cells z))) : wpList P ops Q (op :: rest) a w :=
  wpList_plain hgd fun K hK => by
    unfold Oper.wp execOp
    simp only [ho, hx, hy, Sem.run_bind, Sem.run_pure, Result.andThen_ok, L.store w b o z ht]
    exact hK _ _ h

/-- clear: whatever is there is zero then. -/
theorem wpList_clear_lay {ops : Array Oper} {rest : List Oper} {op : Oper} {a : Act} {w : World} {Q : Exit → Act → World → Prop} (L : Lay P e α) {t : TypeId} (ht : P.underlying t = some (.slice e)) (hgd : op.guard = none) (s : Operand)
    (ho : op.op = .call { callee := .builtin .clear, args := #[s], argTypes := #[t] }) (b o n c : Nat) (hs : a.eval s = .slice (some ⟨b, o, none⟩) n c) (hth : w.there b o (n * L.size))
    (h : ∀ zs : List Value, zs.length = n * L.size → wpList P ops Q rest (a.put op.dst (.tuple #[])) (w.setCells b o zs)) : wpList P ops Q (op :: rest) a w :=
  wpList_plain hgd fun K hK => by
    obtain ⟨i, z, h1, h2, h3, _, h5, h6⟩ := L.parts
    have hz : (zeroValue e).run P w = .ok z w := by simp [zeroValue, typeInfo, h1, h2]
    by_cases hn : n = 0
    · subst hn
      have hrun : (Builtin.clear_ #[t] op.type #[.slice (some ⟨b, o, none⟩) 0 c]).run P w = .ok (.tuple #[]) w := by
        simp [Builtin.clear_, run_underlying ht]
      unfold Oper.wp execOp
      simp only [ho, resolve, invoke, builtin, Sem.run_bind, Sem.run_pure, Result.andThen_ok, List.map_toArray, List.map_cons, List.map_nil, hs, hrun]
      exact hK _ _ (h [] (by simp))
    · have hst := run_storeCells_cells (P := P) b o (Builtin.zeroCells z.cells n).toList 0 w (fun j hj => by
        have := (hth j (by simp [Builtin.zeroCells, h5] at hj; exact hj)).1; simpa using this) (fun j hj => by
        have := (hth j (by simp [Builtin.zeroCells, h5] at hj; exact hj)).2; simpa using this) (fun v hv => by
        simp only [Builtin.zeroCells, Array.toList_map, List.mem_map, Array.mem_toList_iff] at hv
        obtain ⟨i, _, rfl⟩ := hv
        have hp := L.pos
        have hlt : i % z.cells.size < z.cells.size := Nat.mod_lt _ (by omega)
        rw [getElem!_pos z.cells _ hlt]
        exact (Array.all_eq_true_iff_forall_mem.1 h6) _ (Array.getElem_mem hlt))
      rw [Nat.add_zero] at hst
      have hrun : (Builtin.clear_ #[t] op.type #[.slice (some ⟨b, o, none⟩) n c]).run P w = .ok (.tuple #[]) (w.setCells b o (Builtin.zeroCells z.cells n).toList) := by
        cases n with
        | zero => exact absurd rfl hn
        | succ n => simp only [Builtin.clear_]; simp [run_underlying ht, hz, hst]
      unfold Oper.wp execOp
      simp only [ho, resolve, invoke, builtin, Sem.run_bind, Sem.run_pure, Result.andThen_ok, List.map_toArray, List.map_cons, List.map_nil, hs, hrun]
      exact hK _ _ (h _ (by simp [Builtin.zeroCells, h5]))

theorem there_new (w : World) (cs : Array Value) (t : TypeId) : (w.alloc (.cells cs t)).there w.heap.size 0 cs.size := fun j hj => by
  have h := heap_alloc_new w (.cells cs t)
  refine ⟨?_, ?_⟩
  · simp only [World.cell?, h, Option.isSome_none, Bool.false_eq_true, if_false]
    rw [Array.getElem?_eq_getElem (by omega)]; rfl
  · simp only [World.frozen?, h]
    simp
theorem range_put {w : World} {b o : Nat} (x : α) (h : w.there b o L.size) : (w.setCells b o (L.cells x)).rangeAt b o (L.cells x) := World.rangeAt_setCells_same w b o _ (by rw [L.len]; exact h)
theorem rangeAt_below {B : Nat} {w w' : World} {b o : Nat} {cs : List Value} (h : w.rangeAt b o cs) (hb : Below B w w') (hB : b < B) : w'.rangeAt b o cs := fun j v hv => (hb.cell (p := ⟨b, o + j, none⟩) hB).trans (h j v hv)
theorem there_below {B : Nat} {w w' : World} {b o n : Nat} (h : w.there b o n) (hb : Below B w w') (hB : b < B) : w'.there b o n := fun j hj => by
  rw [hb.cell (p := ⟨b, o + j, none⟩) hB, hb.frozen (p := ⟨b, o + j, none⟩) hB]; exact h j hj

/-! ### Rows of the call's own -/
/-- The things lie in block g from o on, may be written, and the block is one of the call's own, from B on. -/
def Mine (L : Lay P e α) (w : World) (B g o : Nat) (xs : List α) : Prop := B ≤ g ∧ w.rangeAt g o (xs.flatMap L.cells) ∧ w.there g o (xs.length * L.size)
theorem Mine.row {w : World} {B g o : Nat} {xs : List α} (h : Mine L w B g o xs) : LRow L w (some ⟨g, o, none⟩) xs :=
  .inr ⟨g, o, rfl, fun i hi => h.2.1 i _ (List.getElem?_eq_getElem hi)⟩
theorem Mine.base {w : World} {B g o : Nat} {xs : List α} (h : Mine L w B g o xs) : B ≤ g := h.1
theorem Below.setCells {B : Nat} {a : World} {g : Nat} (hg : B ≤ g) : ∀ (vs : List Value) (o : Nat) {w : World}, Below B a w → Below B a (w.setCells g o vs)
  | [], _, _, h => h
  | v :: vs, o, w, h => by
    rw [World.setCells]
    exact Below.setCells hg vs (o + 1) (h.setCell (p := ⟨g, o, none⟩) hg v)
theorem Mine.there {w : World} {B g o : Nat} {xs : List α} (h : Mine L w B g o xs) {k : Nat} (hk : k < xs.length) : w.there g (o + k * L.size) L.size := fun j hj => by
  have h1 : k * L.size + j < xs.length * L.size := by
    have := Nat.mul_le_mul_right L.size (Nat.succ_le_of_lt hk)
    rw [Nat.succ_mul] at this; omega
  have := h.2.2 (k * L.size + j) h1
  rw [Nat.add_assoc]; exact this
theorem Mine.range {w : World} {B g o : Nat} {xs : List α} (h : Mine L w B g o xs) {k : Nat} (hk : k < xs.length) : w.rangeAt g (o + k * L.size) (L.cells xs[k]) := fun j v hv => by
  have hj : j < L.size := by have := (List.getElem?_eq_some_iff.1 hv).1; rw [L.len] at this; exact this
  have h1 := L.at xs (k := k) hj
  rw [List.getElem?_eq_getElem hk, Option.bind_some, hv] at h1
  have := h.2.1 _ _ h1
  rw [Nat.add_assoc]; exact this
theorem Mine.set {w : World} {B g o : Nat} {xs : List α} (h : Mine L w B g o xs) {k : Nat} (hk : k < xs.length) (x : α) : Mine L (w.setCells g (o + k * L.size) (L.cells x)) B g o (xs.set k x) := by
  refine ⟨h.1, fun j v hv => ?_, by rw [List.length_set]; exact World.there_setCells h.2.2 _ _ _⟩
  have hj : j < (xs.set k x).length * L.size := by have := (List.getElem?_eq_some_iff.1 hv).1; rw [L.length] at this; exact this
  have hp := L.pos
  have hr : j % L.size < L.size := Nat.mod_lt _ hp
  have hjj : j / L.size * L.size + j % L.size = j := by rw [Nat.mul_comm]; exact Nat.div_add_mod j L.size
  have h1 := L.at (xs.set k x) (k := j / L.size) hr
  rw [hjj, hv] at h1
  by_cases hk2 : j / L.size = k
  · rw [hk2, List.getElem?_set_self hk, Option.bind_some] at h1
    have hlen : j % L.size < (L.cells x).length := by rw [L.len]; exact hr
    have h2 := World.cell?_setCells_in g (L.cells x) (o + k * L.size) w (fun i hi => (h.there hk i (by rw [L.len] at hi; exact hi)).1) _ hlen
    have h3 : o + j = o + k * L.size + j % L.size := by rw [← hk2]; omega
    rw [h3, h2]
    rw [List.getElem?_eq_getElem hlen] at h1
    exact h1.symm
  · rw [List.getElem?_set_ne (fun e => hk2 e.symm)] at h1
    have h4 := L.at xs (k := j / L.size) hr
    rw [hjj, ← h1] at h4
    have h5 := h.2.1 j v h4
    rw [World.cell?_setCells_out g (L.cells x) (o + k * L.size) w ⟨g, o + j, none⟩ (fun _ _ => ?_)]
    · exact h5
    · rw [L.len]
      rcases Nat.lt_or_gt_of_ne hk2 with h6 | h6
      · left
        have := Nat.mul_le_mul_right L.size (Nat.succ_le_of_lt h6)
        rw [Nat.succ_mul] at this
        show o + j < o + k * L.size
        omega
      · right
        have := Nat.mul_le_mul_right L.size (Nat.succ_le_of_lt h6)
        rw [Nat.succ_mul] at this
        show o + k * L.size + L.size ≤ o + j
        omega
theorem Mine.take {w : World} {B g o : Nat} {xs : List α} (h : Mine L w B g o xs) (k : Nat) : Mine L w B g o (xs.take k) := by
  refine ⟨h.1, fun j v hv => ?_, fun j hj => h.2.2 j (Nat.lt_of_lt_of_le hj (Nat.mul_le_mul_right _ (by simp; omega)))⟩
  rw [← flatMap_take L.len, List.getElem?_take] at hv
  split at hv
  · exact h.2.1 j v hv
  · cases hv
theorem Mine.below {w w' : World} {B g o B' : Nat} {xs : List α} (h : Mine L w B g o xs) (hb : Below B' w w') (hg : g < B') : Mine L w' B g o xs :=
  ⟨h.1, fun j v hv => (hb.cell (p := ⟨g, o + j, none⟩) hg).trans (h.2.1 j v hv), fun j hj => by
    rw [hb.cell (p := ⟨g, o + j, none⟩) hg, hb.frozen (p := ⟨g, o + j, none⟩) hg]; exact h.2.2 j hj⟩
theorem Mine.lt {w : World} {B g o : Nat} {xs : List α} (h : Mine L w B g o xs) (h0 : xs ≠ []) : g < w.heap.size :=
  Row.lt h.row (by intro h1; have := congrArg List.length h1; rw [L.length, List.length_nil, Nat.mul_eq_zero] at this; have hp := L.pos; rcases this with h | h; exact h0 (List.eq_nil_of_length_eq_zero h); omega)
theorem Mine.of_own {w : World} {B : Nat} {g n c : Nat} {xs : List α} (h : w.ownsRow B e L.size (.slice (some ⟨g, 0, none⟩) n c) n (xs.flatMap L.cells)) : Mine L w B g 0 xs := by
  obtain ⟨hl, h⟩ := h
  rcases h with ⟨hv, _⟩ | ⟨g', cap, cur, hv, hB, hg, hnc, hm, hs, ht⟩
  · cases hv
  · simp only [Value.slice.injEq, Option.some.injEq, Addr.mk.injEq, and_true] at hv
    obtain ⟨rfl, _, rfl⟩ := hv
    have hxs : xs.length * L.size = n * L.size := by rw [← L.length]; exact hl
    have h2 : n * L.size ≤ cur.size := by rw [hs]; exact Nat.mul_le_mul_right _ hnc
    have hcell : ∀ j, w.cell? ⟨g, 0 + j, none⟩ = cur[j]? := fun j => by simp [World.cell?, hg]
    refine ⟨hB, fun j v hv => ?_, fun j hj => ?_⟩
    · rw [hcell]
      rw [← ht, List.getElem?_take] at hv
      split at hv
      · simpa using hv
      · cases hv
    · rw [hcell, Array.getElem?_eq_getElem (by omega)]
      exact ⟨rfl, by simp [World.frozen?, hg]⟩
theorem setCells_size (b : Nat) : ∀ (vs : List Value) (o : Nat) (w : World), (w.setCells b o vs).heap.size = w.heap.size
  | [], _, _ => rfl
  | v :: vs, o, w => by rw [World.setCells, setCells_size b vs]; simp
/-- A thing put into a new variable of its own. -/
theorem wpList_store_box {ops : Array Oper} {rest : List Oper} {op : Oper} {a : Act} {w : World} {cs : Array Value} {t : TypeId} {Q : Exit → Act → World → Prop} (L : Lay P e α) (hgd : op.guard = none) (x y : Operand) (ho : op.op = .store e x y)
    (z : α) (hx : a.eval x = .pointer (some ⟨w.heap.size, 0, none⟩)) (hy : a.eval y = L.val z) (ht : cs.size = L.size)
    (h : ∀ w', w'.rangeAt w.heap.size 0 (L.cells z) → w'.there w.heap.size 0 L.size → Below w.heap.size w w' → w'.heap.size = w.heap.size + 1 → wpList P ops Q rest (a.put op.dst undef) w') : wpList P ops Q (op :: rest) a (w.alloc (.cells cs t)) := by
  have hth : (w.alloc (.cells cs t)).there w.heap.size 0 L.size := by rw [← ht]; exact there_new w cs t
  refine wpList_store_lay L hgd x y ho w.heap.size 0 z hx hy hth (h _ (range_put z hth) (World.there_setCells hth _ _ _) (Below.setCells (Nat.le_refl _) _ _ ((Below.refl _ _).alloc (Nat.le_refl _) _)) (by rw [setCells_size]; simp))
/-- A thing put into its place in a row of the call's own. -/
theorem wpList_store_mine {ops : Array Oper} {rest : List Oper} {op : Oper} {a : Act} {w : World} {Q : Exit → Act → World → Prop} (L : Lay P e α) (hgd : op.guard = none) (x y : Operand) (ho : op.op = .store e x y)
    {B g o : Nat} {xs : List α} (hm : Mine L w B g o xs) (k : Nat) (hk : k < xs.length) (z : α) (hx : a.eval x = .pointer (some ⟨g, o + k * L.size, none⟩)) (hy : a.eval y = L.val z)
    (h : ∀ w', Mine L w' B g o (xs.set k z) → (∀ B', B' ≤ g → Below B' w w') → w'.heap.size = w.heap.size → wpList P ops Q rest (a.put op.dst undef) w') : wpList P ops Q (op :: rest) a w :=
  wpList_store_lay L hgd x y ho g (o + k * L.size) z hx hy (hm.there hk) (h _ (hm.set hk z) (fun _ hB => Below.setCells hB _ _ (Below.refl _ _)) (setCells_size _ _ _ _))
/-- What lies behind a row's first things is struck. -/
theorem wpList_clear_mine {ops : Array Oper} {rest : List Oper} {op : Oper} {a : Act} {w : World} {Q : Exit → Act → World → Prop} (L : Lay P e α) {t : TypeId} (ht : P.underlying t = some (.slice e)) (hgd : op.guard = none) (s : Operand)
    (ho : op.op = .call { callee := .builtin .clear, args := #[s], argTypes := #[t] }) {B g o : Nat} {xs : List α} (hm : Mine L w B g o xs) (k : Nat) (hk : k ≤ xs.length) (n c : Nat) (hn : n + k = xs.length) (hs : a.eval s = .slice (some ⟨g, o + k * L.size, none⟩) n c)
    (h : ∀ w', Mine L w' B g o (xs.take k) → (∀ B', B' ≤ g → Below B' w w') → w'.heap.size = w.heap.size → wpList P ops Q rest (a.put op.dst (.tuple #[])) w') : wpList P ops Q (op :: rest) a w := by
  have hth : w.there g (o + k * L.size) (n * L.size) := fun j hj => by
    have := hm.2.2 (k * L.size + j) (by rw [← hn, Nat.add_mul]; omega)
    rw [Nat.add_assoc]; exact this
  refine wpList_clear_lay L ht hgd s ho g (o + k * L.size) n c hs hth fun zs _ => h _ ?_ (fun _ hB => Below.setCells hB _ _ (Below.refl _ _)) (setCells_size _ _ _ _)
  have h1 := hm.take k
  refine ⟨h1.1, World.rangeAt_setCells_apart h1.2.1 _ _ _ (.inr (.inl ?_)), World.there_setCells h1.2.2 _ _ _⟩
  rw [L.length, List.length_take, Nat.min_eq_left hk]; omega
theorem own_head {w : World} {B : Nat} {t : TypeId} {size : Nat} {a : Option Addr} {n c : Nat} {xs : List Value} (h : w.ownsRow B t size (.slice a n c) n xs) (h0 : xs ≠ []) : ∃ g, a = some ⟨g, 0, none⟩ ∧ B ≤ g ∧ c ≤ maxLen := by
  rcases h.2 with ⟨_, h1⟩ | ⟨g, cap, cur, hv, hB, hg, hnc, hm, hs, ht⟩
  · exact absurd (List.eq_nil_of_length_eq_zero (by rw [h.1, h1, Nat.zero_mul])) h0
  · simp only [Value.slice.injEq] at hv
    obtain ⟨rfl, _, rfl⟩ := hv
    exact ⟨g, rfl, hB, hm⟩
theorem Mine.mono {w : World} {B B' g o : Nat} {xs : List α} (h : Mine L w B g o xs) (hB : B' ≤ B) : Mine L w B' g o xs := ⟨Nat.le_trans hB h.1, h.2⟩
end
end Go.Proofs.Ytmihgdjnjfjjcaa

namespace Go.Proofs.Ytmihgdjnjfjjcaa
open Go.ChangeShapes Go.WideShapes Go.ChangeAt Go.RowKit
set_option maxRecDepth 100000

structure Prg where
  node : Int
  mat : Int
  next : Int
  deriving DecidableEq
abbrev Prg.cells (t : Prg) : List Value := [.int .i64 t.node, .int .i64 t.mat, .int .i64 t.next]
abbrev Prg.agg (t : Prg) : Value := .agg #[.int .i64 t.node, .int .i64 t.mat, .int .i64 t.next]
def layPrg : Lay Try.prog 39 Prg := Lay.struct Prg.cells 3 24 (fun _ => rfl) (by decide) (by decide) (fun x u hu => by simp at hu; rcases hu with h | h | h <;> subst h <;> rfl) (by kernel_rfl) _ Try.underlying39 rfl
theorem layPrg_val (t : Prg) : layPrg.val t = t.agg := rfl
theorem cellsPrg {w : World} {b o : Nat} {t : Prg} (h : w.rangeAt b o t.cells) : w.cell? ⟨b, o, none⟩ = some (.int .i64 t.node) ∧ w.cell? ⟨b, o + 1, none⟩ = some (.int .i64 t.mat) ∧ w.cell? ⟨b, o + 2, none⟩ = some (.int .i64 t.next) :=
  ⟨h 0 _ rfl, h 1 _ rfl, h 2 _ rfl⟩
theorem atPrg {w : World} {a : Option Addr} {ts : List Prg} (h : LRow layPrg w a ts) {k : Nat} (hk : k < ts.length) :
    ∃ b o, a = some ⟨b, o, none⟩ ∧ ∀ w', Below w.heap.size w w' → w'.cell? ⟨b, o + k * 3, none⟩ = some (.int .i64 ts[k].node) ∧ w'.cell? ⟨b, o + k * 3 + 1, none⟩ = some (.int .i64 ts[k].mat) ∧ w'.cell? ⟨b, o + k * 3 + 2, none⟩ = some (.int .i64 ts[k].next) := by
  obtain ⟨b, o, rfl, hc⟩ := LRow.range h hk
  exact ⟨b, o, rfl, fun w' hb => cellsPrg (hc w' hb)⟩
theorem eqPrg_run (t u : Prg) (w : World) : (Op.equalIn 10000 39 t.agg u.agg).run Try.prog w = .ok (decide (t = u)) w := by
  obtain ⟨t0, t1, t2⟩ := t
  obtain ⟨u0, u1, u2⟩ := u
  have hp : Try.prog.stoodInHeld 39 = false := by kernel_rfl
  have hint := fun (d : Nat) (a b : Int) (w : World) => run_equalIn_int (P := Try.prog) w d 3 .i64 .i64 a b Try.underlying3
  simp [go_sem, hp, hint]
  by_cases e0 : t0 = u0 <;> by_cases e1 : t1 = u1 <;> by_cases e2 : t2 = u2 <;> simp [e0, e1, e2]
theorem eqlPrg_run (t u : Prg) (w : World) : (binOp .eql 39 t.agg u.agg).run Try.prog w = .ok (.bool (decide (t = u))) w := by
  rw [run_eql_struct, eqPrg_run]; rfl
theorem neqPrg_run (t u : Prg) (w : World) : (binOp .neq 39 t.agg u.agg).run Try.prog w = .ok (.bool (!decide (t = u))) w := by
  rw [run_neq_struct, eqPrg_run]; rfl
end Go.Proofs.Ytmihgdjnjfjjcaa

/- Blocks of the call's own known whole: copies into them; a new row out of an old one's beginning. -/
namespace Go.Proofs.Ytmihgdjnjfjjcaa
open Go.ChangeShapes Go.WideShapes Go.ChangeAt Go.RowKit
set_option maxRecDepth 100000

section
variable {P : Program} {e : TypeId} {α : Type}

theorem run_copy_whole (L : Lay P e α) {t : TypeId} (ht : P.underlying t = some (.slice e)) (ty : TypeId) (w : World) (g o : Nat) (A M R cs : List Value) (te : TypeId) (hg : w.heap[g]? = some (.cells (A ++ (M ++ R)).toArray te (0, 0))) (ho : A.length = o)
    (hM : M.length = cs.length) (h1 : ∀ u ∈ cs, u.oneCell' = true) (dn dc sn sc m : Nat) (sp : Addr) (hm : Nat.min sn dn = m) (hl : cs.length = m * L.size) (hsrc : ∀ j v, cs[j]? = some v → w.cell? (sp.add j) = some v) :
    (Builtin.copy_ #[t, t] ty #[.slice (some ⟨g, o, none⟩) dn dc, .slice (some sp) sn sc]).run P w = .ok (goInt m) (w.setRow g (A ++ (cs ++ R)).toArray) := by
  obtain ⟨i, z, h2, _, h3, _⟩ := L.parts
  have hsz : (sizeOf e).run P w = .ok L.size w := by simp [sizeOf, typeInfo, h2, h3]
  have hfc := run_firstCells_some (P := P) (w := w) L.size m sp sn sc cs hl hsrc
  have hst := run_storeCells_at (P := P) g o te cs 0 (A ++ (M ++ R)).toArray w hg (by simp; omega) h1
  have hrow : ((A ++ (M ++ R)).toArray.toList.take (o + 0) ++ cs ++ (A ++ (M ++ R)).toArray.toList.drop (o + 0 + cs.length)) = A ++ (cs ++ R) := by
    rw [List.toList_toArray, Nat.add_zero, ← ho, List.take_left, ← hM, ← List.drop_drop, List.drop_left, List.drop_left, List.append_assoc]
  rw [hrow] at hst
  simp only [Builtin.copy_]
  simp [run_underlying ht, Builtin.lenOf, hm, hsz, hfc, hst]
theorem below_setRow' {B g : Nat} {w0 w : World} (hb : Below B w0 w) (hBg : B ≤ g) (cs : Array Value) : Below B w0 (w.setRow g cs) :=
  hb.trans ⟨rfl, rfl, rfl, by simp [World.setRow], fun k hk => setRow_other w g k cs (by omega)⟩

theorem wpList_copy_whole {ops : Array Oper} {rest : List Oper} {op : Oper} {a : Act} {w : World} {Q : Exit → Act → World → Prop} (L : Lay P e α) {t : TypeId} (ht : P.underlying t = some (.slice e)) (hgd : op.guard = none) (d s : Operand)
    (ho : op.op = .call { callee := .builtin .copy, args := #[d, s], argTypes := #[t, t] }) (g o : Nat) (A M R cs : List Value) (te : TypeId) (hg : w.heap[g]? = some (.cells (A ++ (M ++ R)).toArray te (0, 0))) (hoA : A.length = o)
    (hM : M.length = cs.length) (h1 : ∀ u ∈ cs, u.oneCell' = true) (dn dc sn sc m : Nat) (sp : Addr) (hm : Nat.min sn dn = m) (hl : cs.length = m * L.size) (hsrc : ∀ j v, cs[j]? = some v → w.cell? (sp.add j) = some v)
    (hd : a.eval d = .slice (some ⟨g, o, none⟩) dn dc) (hs : a.eval s = .slice (some sp) sn sc)
    (h : ∀ w', w'.heap[g]? = some (.cells (A ++ (cs ++ R)).toArray te (0, 0)) → (∀ B, B ≤ g → Below B w w') → (∀ k, k ≠ g → w'.heap[k]? = w.heap[k]?) → w'.heap.size = w.heap.size → wpList P ops Q rest (a.put op.dst (goInt m)) w') : wpList P ops Q (op :: rest) a w :=
  wpList_plain hgd fun K hK => by
    have hrun := run_copy_whole L ht op.type w g o A M R cs te hg hoA hM h1 dn dc sn sc m sp hm hl hsrc
    unfold Oper.wp execOp
    simp only [ho, resolve, invoke, builtin, Sem.run_bind, Sem.run_pure, Result.andThen_ok, List.map_toArray, List.map_cons, List.map_nil, hd, hs, hrun]
    exact hK _ _ (h _ (setRow_heap w g _ _ te _ hg) (fun B hB => below_setRow' (Below.refl _ _) hB _) (fun k hk => setRow_other w g k _ hk) (by simp [World.setRow]))

/-- append(s[:i], make(S, k)...) where there is no room: a new row: what stood first, then zeros. -/
theorem run_append_zeros (L : Lay P e α) {t tn : TypeId} (ht : P.underlying t = some (.slice e)) (htn : P.underlying tn = some (.int .i64)) (ty : TypeId) (w : World) (b o i c k : Nat) (A : List Value) (hA : A.length = i * L.size)
    (hsrc : ∀ j v, A[j]? = some v → w.cell? ⟨b, o + j, none⟩ = some v) (hk : 0 < k) (hg : c < i + k) (hby : (i + k) * L.bytes ≤ 140737488355328) :
    ∃ w' g' c' Z, (Builtin.append_ #[t, tn] ty #[.slice (some ⟨b, o, none⟩) i c, .int .i64 k]).run P w = .ok (.slice (some ⟨g', 0, none⟩) (i + k) c') w' ∧ g' = w.heap.size ∧ i + k ≤ c' ∧ c' ≤ maxLen ∧
      w'.heap[g']? = some (.cells (A ++ Z).toArray e (0, 0)) ∧ (A ++ Z).length = c' * L.size ∧ Below w.heap.size w w' ∧ w'.heap.size = w.heap.size + 1 := by
  obtain ⟨ti, z, h1, h2, h3, h4, h5, _⟩ := L.parts
  have hb := L.bpos
  have hsmall : i + k ≤ 140737488355328 := Nat.le_trans (Nat.le_mul_of_pos_right _ hb) hby
  have hold : (Builtin.firstCells ti.size i (.slice (some ⟨b, o, none⟩) i c)).run P w.drew = .ok A.toArray w.drew := by
    rw [h3]
    exact run_firstCells_some (P := P) (w := w.drew) L.size i ⟨b, o, none⟩ i c A hA (fun j v hj => by rw [Addr.add_mid]; exact hsrc j v hj)
  have hrun := Lib.run_append_grow_zeros (P := P) w t tn ty e ti z .i64 .i64 ht htn h1 h2 (some ⟨b, o, none⟩) i c A hold k hk (by rw [h3]; exact L.pos) hg (by omega)
    (by rw [h4]; have : k * L.bytes ≤ (i + k) * L.bytes := Nat.mul_le_mul_right _ (by omega); omega) (by rw [h4]; exact growslice_fits hg hby)
  have hle : i + k ≤ grownCap w (i + k) c e := by simp [grownCap, Question.cut]
  have hmax := grownCap_le_maxLen w (i + k) c e (by unfold maxLen; omega)
  refine ⟨_, w.heap.size, grownCap w (i + k) c e, (Builtin.zeroCells z.cells k ++ Builtin.zeroCells z.cells (grownCap w (i + k) c e - (i + k))).toList, hrun, rfl, hle, hmax, ?_, ?_, ?_, ?_⟩
  · have := heap_alloc_new w.drew (.cells (A.toArray ++ Builtin.zeroCells z.cells k ++ Builtin.zeroCells z.cells (grownCap w (i + k) c e - (i + k))) e)
    have h6 : w.drew.heap.size = w.heap.size := rfl
    rw [h6] at this
    rw [this]
    congr 2
    simp
  · simp [size_zeroCells, h5, hA]
    rw [← Nat.add_mul, ← Nat.add_mul]
    congr 1
    omega
  · exact ((Below.refl w.heap.size w).drew).alloc (Nat.le_refl _) _
  · simp
/-- out = append(out, y), y in a new row of one. -/
theorem wpList_app1 {ops : Array Oper} {rest : List Oper} {op : Oper} {ac : Act} {w : World} {cs : Array Value} {te : TypeId} {Q : Exit → Act → World → Prop} (L : Lay P e α) {t : TypeId} (ht : P.underlying t = some (.slice e)) (hgd : op.guard = none) (s x : Operand)
    (ho : op.op = .call { callee := .builtin .append, args := #[s, x], argTypes := #[t, t] }) (B : Nat) (a : Option Addr) (n c : Nat) (xs : List α) (hs : ac.eval s = .slice a n c) (hown : w.ownsRow B e L.size (.slice a n c) n (xs.flatMap L.cells))
    (y : α) (hcs : cs.toList = L.cells y) (hx : ac.eval x = .slice (some ⟨w.heap.size, 0, none⟩) 1 1) (hby : (n + 1) * L.bytes ≤ 140737488355328) (hB : B ≤ w.heap.size)
    (h : ∀ a' c' w', w'.ownsRow B e L.size (.slice a' (n + 1) c') (n + 1) ((xs ++ [y]).flatMap L.cells) → Below B w w' → wpList P ops Q rest (ac.put op.dst (.slice a' (n + 1) c')) w') : wpList P ops Q (op :: rest) ac (w.alloc (.cells cs te)) := by
  refine wpList_app (L.elem ht) hgd s x ho B (.slice a n c) n _ hs (hown.alloc _) (some ⟨w.heap.size, 0, none⟩) 1 1 (L.cells y) hx (by rw [L.len, Nat.one_mul]) (by rw [← hcs]; exact Row.new _ _ _ _) (L.one y) hby (Nat.le_trans hB (by simp)) ?_
  intro a' c' w' ho2 hg2
  refine h a' c' w' ?_ (Below.app ((Below.refl B w).alloc hB _) (hown.alloc _) hg2 (Nat.le_trans hB (by simp)))
  rw [List.flatMap_append, List.flatMap_cons, List.flatMap_nil, List.append_nil]
  exact ho2
/-- A thing read, its value spelled as one likes. -/
theorem wpList_load_as {ops : Array Oper} {rest : List Oper} {op : Oper} {a : Act} {w : World} {Q : Exit → Act → World → Prop} (L : Lay P e α) (hgd : op.guard = none) (x : Operand) (ho : op.op = .load e x)
    (b o : Nat) (hx : a.eval x = .pointer (some ⟨b, o, none⟩)) (y : α) (v : Value) (hv : L.val y = v) (hc : w.rangeAt b o (L.cells y)) (h : wpList P ops Q rest (a.put op.dst v) w) : wpList P ops Q (op :: rest) a w := by
  subst hv
  exact wpList_load_lay L hgd x ho b o hx y hc h
/-- A thing put into a variable: the world behind it is not looked into. -/
theorem wpList_store_there {ops : Array Oper} {rest : List Oper} {op : Oper} {a : Act} {w : World} {Q : Exit → Act → World → Prop} (L : Lay P e α) (hgd : op.guard = none) (x y : Operand) (ho : op.op = .store e x y)
    (b o : Nat) (z : α) (hx : a.eval x = .pointer (some ⟨b, o, none⟩)) (hy : a.eval y = L.val z) (ht : w.there b o L.size)
    (h : ∀ w', w'.rangeAt b o (L.cells z) → w'.there b o L.size → (∀ B, B ≤ b → Below B w w') → w'.heap.size = w.heap.size → wpList P ops Q rest (a.put op.dst undef) w') : wpList P ops Q (op :: rest) a w :=
  wpList_store_lay L hgd x y ho b o z hx hy ht (h _ (range_put z ht) (World.there_setCells ht _ _ _) (fun _ hB => Below.setCells hB _ _ (Below.refl _ _)) (setCells_size _ _ _ _))
theorem box_there {w w' : World} {cs : Array Value} {t : TypeId} (hb : Below (w.alloc (.cells cs t)).heap.size (w.alloc (.cells cs t)) w') : w'.there w.heap.size 0 cs.size :=
  there_below (there_new w cs t) hb (by simp)
theorem box_range {w w' : World} {cs : List Value} {t : TypeId} (hb : Below (w.alloc (.cells cs.toArray t)).heap.size (w.alloc (.cells cs.toArray t)) w') : w'.rangeAt w.heap.size 0 cs := fun j v hv => by
  rw [Nat.zero_add, own_cells hb j, List.getElem?_toArray, hv]
theorem Can.alloc {w : World} {B : Nat} {t : TypeId} {size : Nat} {a : Option Addr} {n c : Nat} {xs : List Value} (h : Can w B t size a n c xs) (o : Obj) : Can (w.alloc o) B t size a n c xs :=
  ⟨h.1, h.2.1, h.2.2.imp (fun ⟨h1, h2⟩ => ⟨h1, Row.alloc h2 o⟩) (fun h => h.alloc o)⟩
theorem own_whole {L : Lay P e α} {w : World} {B g n c : Nat} {A : List Value} (h : w.ownsRow B e L.size (.slice (some ⟨g, 0, none⟩) n c) n A) : B ≤ g ∧ n ≤ c ∧ c ≤ maxLen ∧ A.length = n * L.size ∧ ∃ D, w.heap[g]? = some (.cells (A ++ D).toArray e (0, 0)) ∧ (A ++ D).length = c * L.size := by
  obtain ⟨hl, h⟩ := h
  rcases h with ⟨hv, _⟩ | ⟨g', cap, cur, hv, hB, hg, hnc, hm, hs, ht⟩
  · cases hv
  · simp only [Value.slice.injEq, Option.some.injEq, Addr.mk.injEq, and_true] at hv
    obtain ⟨rfl, _, rfl⟩ := hv
    refine ⟨hB, hnc, hm, hl, cur.toList.drop (n * L.size), ?_, ?_⟩
    · rw [← ht, List.take_append_drop]; simpa using hg
    · rw [← ht, List.take_append_drop]; simpa using hs
theorem own_of_whole {L : Lay P e α} {w : World} {B g n c : Nat} {A D : List Value} (hB : B ≤ g) (hnc : n ≤ c) (hm : c ≤ maxLen) (hA : A.length = n * L.size) (hg : w.heap[g]? = some (.cells (A ++ D).toArray e (0, 0))) (hs : (A ++ D).length = c * L.size) :
    w.ownsRow B e L.size (.slice (some ⟨g, 0, none⟩) n c) n A :=
  ⟨hA, .inr ⟨g, c, (A ++ D).toArray, rfl, hB, hg, hnc, hm, by simpa using hs, by rw [List.toList_toArray, ← hA, List.take_left]⟩⟩
end
end Go.Proofs.Ytmihgdjnjfjjcaa

/- Variables of the call's own; one block turned, all others stand (printed by gen_bx.py out of other texts). -/
namespace Go.Proofs.Ytmihgdjnjfjjcaa
open Go.ChangeShapes Go.WideShapes Go.ChangeAt Go.RowKit
set_option maxRecDepth 100000

theorem setCells_keep (g : Nat) : ∀ (vs : List Value) (o : Nat) (w : World) (k : Nat), k ≠ g → (w.setCells g o vs).heap[k]? = w.heap[k]?
  | [], _, _, _, _ => rfl
  | v :: vs, o, w, k, h => by
    rw [World.setCells, setCells_keep g vs (o + 1) _ k h]
    exact Below.heap_setCell _ _ _ _ (fun e => h e)
theorem mid_alloc' {w w' : World} {o : Obj} (hb : Below (w.alloc o).heap.size (w.alloc o) w') : Below w.heap.size w w' := ((Below.refl w.heap.size w).alloc (Nat.le_refl _) o).trans (hb.mono (by simp))
/-- An operation whose guard lets it be done. -/
theorem wpList_strip {P : Program} {ops : Array Oper} {Q : Exit → Act → World → Prop} {a : Act} {w : World} {rest : List Oper} {o : Oper}
    (hw : Region.wanted o (yielded ops a.tmps) = true) (h : wpList P ops Q ({ o with guard := none } :: rest) a w) : wpList P ops Q (o :: rest) a w := by
  unfold wpList at h ⊢
  rw [if_pos hw]
  rw [if_pos (by rfl)] at h
  exact h
/-- Of the blocks that stood, the one alone may have turned. -/
structure Only (g : Nat) (w w' : World) : Prop where
  os : w'.os = w.os
  tape : w'.tape = w.tape
  output : w'.output = w.output
  size : w.heap.size ≤ w'.heap.size
  block : ∀ k, k < w.heap.size → k ≠ g → w'.heap[k]? = w.heap[k]?
theorem Only.refl (g : Nat) (w : World) : Only g w w := ⟨rfl, rfl, rfl, Nat.le_refl _, fun _ _ _ => rfl⟩
theorem Only.trans {g : Nat} {w w' w'' : World} (h : Only g w w') (h2 : Only g w' w'') : Only g w w'' :=
  ⟨h2.os.trans h.os, h2.tape.trans h.tape, h2.output.trans h.output, Nat.le_trans h.size h2.size, fun k h1 h3 => (h2.block k (Nat.lt_of_lt_of_le h1 h.size) h3).trans (h.block k h1 h3)⟩
theorem Only.of {g : Nat} {w w' : World} (h : Below w.heap.size w w') : Only g w w' := ⟨h.os, h.tape, h.output, h.size, fun k hk _ => h.block k hk⟩
theorem Only.next {g : Nat} {w w' w'' : World} (h : Only g w w') (h2 : Below w'.heap.size w' w'') : Only g w w'' := h.trans (.of h2)
theorem Only.put {g : Nat} {w w' w'' : World} (h : Only g w w') (h2 : ∀ B, B ≤ g → Below B w' w'') (hk : ∀ k, k ≠ g → w''.heap[k]? = w'.heap[k]?) : Only g w w'' :=
  h.trans ⟨(h2 0 (Nat.zero_le _)).os, (h2 0 (Nat.zero_le _)).tape, (h2 0 (Nat.zero_le _)).output, (h2 0 (Nat.zero_le _)).size, fun k _ hne => hk k hne⟩
theorem Only.below {g : Nat} {w w' : World} (h : Only g w w') {B : Nat} (hB : B ≤ g) (hs : B ≤ w.heap.size) : Below B w w' := ⟨h.os, h.tape, h.output, h.size, fun k hk => h.block k (by omega) (by omega)⟩
/-- The blocks from B on, below E, stand as they stood. -/
structure Mid (B E : Nat) (w w' : World) : Prop where
  size : w.heap.size ≤ w'.heap.size
  keep : ∀ k, B ≤ k → k < E → w'.heap[k]? = w.heap[k]?
theorem Mid.refl (B E : Nat) (w : World) : Mid B E w w := ⟨Nat.le_refl _, fun _ _ _ => rfl⟩
theorem Mid.trans {B E : Nat} {w w' w'' : World} (h : Mid B E w w') (h2 : Mid B E w' w'') : Mid B E w w'' := ⟨Nat.le_trans h.size h2.size, fun k h1 h3 => (h2.keep k h1 h3).trans (h.keep k h1 h3)⟩
theorem Mid.below {B E E' : Nat} {w w' : World} (h : Below E' w w') (hE : E ≤ E') : Mid B E w w' := ⟨h.size, fun k _ h1 => h.block k (by omega)⟩
theorem Mid.next {B E E' : Nat} {w w' w'' : World} (h : Mid B E w w') (h2 : Below E' w' w'') (hE : E ≤ E') : Mid B E w w'' := h.trans (.below h2 hE)
theorem Mid.setCell {B E : Nat} {w w' : World} (h : Mid B E w w') (p : Addr) (v : Value) (hp : p.block < B ∨ E ≤ p.block) : Mid B E w (w'.setCell p v) :=
  h.trans ⟨by simp, fun k h1 h2 => Below.heap_setCell _ _ _ _ (by omega)⟩
theorem Mid.other {B E : Nat} {w w' w'' : World} {g : Nat} (h : Mid B E w w') (hk : ∀ k, k ≠ g → w''.heap[k]? = w'.heap[k]?) (hs : w''.heap.size = w'.heap.size) (hg : g < B ∨ E ≤ g) : Mid B E w w'' :=
  h.trans ⟨by omega, fun k h1 h2 => hk k (by omega)⟩
theorem Mid.drew {B E : Nat} {w w' : World} (h : Mid B E w w') : Mid B E w w'.drew := ⟨h.size, h.keep⟩
theorem Mid.alloc {B E : Nat} {w w' : World} (h : Mid B E w w') (hE : E ≤ w'.heap.size) (o : Obj) : Mid B E w (w'.alloc o) := h.trans (.below ((Below.refl _ _).alloc (Nat.le_refl _) o) hE)
theorem Mid.up {B B' E : Nat} {w w' : World} (h : Mid B E w w') (hB : B ≤ B') : Mid B' E w w' := ⟨h.size, fun k h1 h2 => h.keep k (by omega) h2⟩

theorem own_mid {w w' : World} {B E B0 : Nat} {e : TypeId} {size : Nat} {v : Value} {n : Nat} {xs : List Value} (h : w.ownsRow B0 e size v n xs) (hm : Mid B E w w') (hB : B ≤ B0) (hE : w.heap.size ≤ E) : w'.ownsRow B0 e size v n xs := by
  obtain ⟨h1, h2⟩ := h
  refine ⟨h1, ?_⟩
  rcases h2 with h2 | ⟨g, cap, cur, h3, h4, h5, h6⟩
  · exact .inl h2
  · refine .inr ⟨g, cap, cur, h3, h4, ?_, h6⟩
    rw [hm.keep g (by omega) (by have := (Array.getElem?_eq_some_iff.1 h5).1; omega)]; exact h5
theorem row_mid {w w' : World} {B E : Nat} {a : Option Addr} {xs : List Value} (h : Row w a xs) (hm : Mid B E w w') (hn : Near B none a) (hE : w.heap.size ≤ E) : Row w' a xs := by
  by_cases h0 : xs = []
  · exact .inl h0
  · rcases h with h | ⟨b, o, rfl, hc⟩
    · exact absurd h h0
    · have hlt := Row.lt (.inr ⟨b, o, rfl, hc⟩) h0
      have hb : B ≤ b := by
        rcases hn b o none rfl with h1 | ⟨_, _, h1⟩
        · exact h1
        · cases h1
      exact .inr ⟨b, o, rfl, fun i hi => by rw [World.cell?_of_block (w := w) (hm.keep b hb (by omega))]; exact hc i hi⟩
theorem can_mid {w w' : World} {B E B0 : Nat} {e : TypeId} {size : Nat} {a : Option Addr} {n c : Nat} {xs : List Value} (h : Can w B0 e size a n c xs) (hm : Mid B E w w') (hn : Near B none a) (hB : B ≤ B0) (hE : w.heap.size ≤ E) : Can w' B0 e size a n c xs :=
  ⟨h.1, h.2.1, h.2.2.imp (fun ⟨h1, h2⟩ => ⟨h1, row_mid h2 hm hn hE⟩) (fun h => own_mid h hm hB hE)⟩

/-- A thing put into a variable: the world behind it is not looked into; other blocks stand. -/
theorem wpList_store_keep {P : Program} {e : TypeId} {α : Type} {ops : Array Oper} {rest : List Oper} {op : Oper} {a : Act} {w : World} {Q : Exit → Act → World → Prop} (L : Lay P e α) (hgd : op.guard = none) (x y : Operand) (ho : op.op = .store e x y)
    (b o : Nat) (z : α) (hx : a.eval x = .pointer (some ⟨b, o, none⟩)) (hy : a.eval y = L.val z) (ht : w.there b o L.size)
    (h : ∀ w', w'.rangeAt b o (L.cells z) → w'.there b o L.size → (∀ B, B ≤ b → Below B w w') → w'.heap.size = w.heap.size → (∀ k, k ≠ b → w'.heap[k]? = w.heap[k]?) → wpList P ops Q rest (a.put op.dst undef) w') : wpList P ops Q (op :: rest) a w :=
  wpList_store_lay L hgd x y ho b o z hx hy ht (h _ (range_put z ht) (World.there_setCells ht _ _ _) (fun _ hB => Below.setCells hB _ _ (Below.refl _ _)) (setCells_size _ _ _ _) (fun k hk => setCells_keep b _ _ _ k hk))
structure Box (w : World) (g : Nat) (cs : List Value) : Prop where
  range : w.rangeAt g 0 cs
  there : w.there g 0 cs.length
theorem Box.cell {w : World} {g : Nat} {cs : List Value} (h : Box w g cs) {j : Nat} {v : Value} (hj : cs[j]? = some v) : w.cell? ⟨g, j, none⟩ = some v := by
  have := h.range j v hj
  rw [Nat.zero_add] at this; exact this
theorem Box.froz {w : World} {g : Nat} {cs : List Value} (h : Box w g cs) {j : Nat} (hj : j < cs.length) : w.frozen? ⟨g, j, none⟩ = false := by
  have := (h.there j hj).2
  rw [Nat.zero_add] at this; exact this
theorem Box.of_alloc {w w' : World} {cs : List Value} {t : TypeId} (hb : Below (w.alloc (.cells cs.toArray t)).heap.size (w.alloc (.cells cs.toArray t)) w') : Box w' w.heap.size cs :=
  ⟨box_range hb, by have := box_there hb; simpa using this⟩
theorem Box.of_alloc1 {w w' : World} {o : Obj} {cs : List Value} {t : TypeId} (hb : Below ((w.alloc o).alloc (.cells cs.toArray t)).heap.size ((w.alloc o).alloc (.cells cs.toArray t)) w') : Box w' (w.heap.size + 1) cs := by
  have := Box.of_alloc hb
  rw [World.size_alloc] at this; exact this
theorem Box.of_alloc2 {w w' : World} {o o' : Obj} {cs : List Value} {t : TypeId} (hb : Below (((w.alloc o).alloc o').alloc (.cells cs.toArray t)).heap.size (((w.alloc o).alloc o').alloc (.cells cs.toArray t)) w') : Box w' (w.heap.size + 1 + 1) cs := by
  have := Box.of_alloc hb
  rw [World.size_alloc, World.size_alloc] at this; exact this
theorem Box.lt {w : World} {g : Nat} {cs : List Value} (h : Box w g cs) (h0 : 0 < cs.length) : g < w.heap.size := World.block_lt_of_cell? w _ (h.cell (List.getElem?_eq_getElem h0))
theorem Box.block {w w' : World} {g : Nat} {cs : List Value} (h : Box w g cs) (hg : w'.heap[g]? = w.heap[g]?) : Box w' g cs :=
  ⟨fun j v hj => by rw [World.cell?_of_block (w := w) hg]; exact h.range j v hj, fun j hj => by
    have := h.there j hj
    refine ⟨by rw [World.cell?_of_block (w := w) hg]; exact this.1, ?_⟩
    have h2 := this.2
    simp only [World.frozen?] at h2 ⊢
    rw [hg]; exact h2⟩
theorem Box.below {w w' : World} {g : Nat} {cs : List Value} {B : Nat} (h : Box w g cs) (hb : Below B w w') (hg : g < B) : Box w' g cs := h.block (hb.block g hg)
theorem Box.next {w w' : World} {g : Nat} {cs : List Value} (h : Box w g cs) (h0 : 0 < cs.length) (hb : Below w.heap.size w w') : Box w' g cs := h.below hb (h.lt h0)
theorem Box.drew {w : World} {g : Nat} {cs : List Value} (h : Box w g cs) : Box w.drew g cs := h.block rfl
theorem Box.set {w : World} {g i : Nat} {cs : List Value} (h : Box w g cs) (hi : i < cs.length) (v : Value) : Box (w.setCell ⟨g, i, none⟩ v) g (cs.set i v) := by
  have hci := h.cell (List.getElem?_eq_getElem hi)
  refine ⟨fun j u hj => ?_, fun j hj => ?_⟩
  · rw [Nat.zero_add]
    by_cases e : i = j
    · subst e
      rw [List.getElem?_set_self hi] at hj
      rw [← hj]; exact World.cell?_setCell_same _ _ _ hci
    · rw [List.getElem?_set_ne e] at hj
      rw [World.cell?_setCell_other w _ _ v (fun h => e (congrArg Addr.off h))]
      exact h.cell hj
  · rw [List.length_set] at hj
    refine ⟨?_, ?_⟩
    · rw [Nat.zero_add]
      by_cases e : i = j
      · subst e; rw [World.cell?_setCell_same _ _ _ hci]; rfl
      · rw [World.cell?_setCell_other w _ _ v (fun h => e (congrArg Addr.off h)), h.cell (List.getElem?_eq_getElem hj)]; rfl
    · rw [World.frozen?_setCell]; exact (h.there j hj).2
theorem Box.far {w : World} {g : Nat} {cs : List Value} (h : Box w g cs) {p : Addr} (hp : p.block ≠ g) (v : Value) : Box (w.setCell p v) g cs := h.block (Below.heap_setCell _ _ _ _ (fun e => hp e.symm))

section
variable {P : Program} {e : TypeId} {α : Type}
/-- What a write into the block g alone does to a world. -/
structure Wrote (g : Nat) (w w' : World) : Prop where
  below : ∀ B, B ≤ g → Below B w w'
  size : w'.heap.size = w.heap.size
  keep : ∀ k, k ≠ g → w'.heap[k]? = w.heap[k]?
theorem Box.wrote {w w' : World} {g g' : Nat} {cs : List Value} (h : Box w g cs) (hw : Wrote g' w w') (hne : g ≠ g') : Box w' g cs := h.block (hw.keep g hne)
theorem Mid.wrote {B E g : Nat} {w w' w'' : World} (h : Mid B E w w') (hw : Wrote g w' w'') (hg : g < B ∨ E ≤ g) : Mid B E w w'' := h.other hw.keep hw.size hg
/-- A thing put into a variable of the call's own. -/
theorem wpList_store_whole {ops : Array Oper} {rest : List Oper} {op : Oper} {a : Act} {w : World} {Q : Exit → Act → World → Prop} (L : Lay P e α) (hgd : op.guard = none) (x y : Operand) (ho : op.op = .store e x y)
    (g : Nat) (z : α) (cs : List Value) (hx : a.eval x = .pointer (some ⟨g, 0, none⟩)) (hy : a.eval y = L.val z) (hb : Box w g cs) (hl : cs.length = L.size)
    (h : ∀ w', Box w' g (L.cells z) → Wrote g w w' → wpList P ops Q rest (a.put op.dst undef) w') : wpList P ops Q (op :: rest) a w :=
  wpList_store_keep L hgd x y ho g 0 z hx hy (by rw [← hl]; exact hb.there) (fun w' h1 h2 h3 h4 h5 => h w' ⟨h1, by rw [L.len]; exact h2⟩ ⟨h3, h4, h5⟩)
/-- A one-cell value put into a field of a variable of the call's own. -/
theorem wpList_store_field {ops : Array Oper} {rest : List Oper} {op : Oper} {a : Act} {w : World} {Q : Exit → Act → World → Prop} {t : TypeId} (hgd : op.guard = none) (x y : Operand) (ho : op.op = .store t x y) (hi : (P.info? t).map (·.size) = some 1)
    (g i : Nat) (cs : List Value) (v : Value) (hx : a.eval x = .pointer (some ⟨g, i, none⟩)) (hy : a.eval y = v) (hv : v.cells = #[v]) (h1 : v.oneCell' = true) (hb : Box w g cs) (hlt : i < cs.length)
    (h : ∀ w', Box w' g (cs.set i v) → Wrote g w w' → wpList P ops Q rest (a.put op.dst undef) w') : wpList P ops Q (op :: rest) a w :=
  wpList_plain hgd fun K hK => by
    have hth : w.there g i 1 := fun j hj => by
      have := hb.there i hlt
      obtain rfl : j = 0 := by omega
      rw [Nat.zero_add] at this; exact this
    have hrun : (storeVar t ⟨g, i, none⟩ v).run P w = .ok () (w.setCell ⟨g, i, none⟩ v) := by
      have := run_storeCells_cells (P := P) g i [v] 0 w (fun j hj => by simpa using (hth j (by simpa using hj)).1) (fun j hj => by simpa using (hth j (by simpa using hj)).2) (fun u hu => by simp at hu; subst hu; exact h1)
      cases hq : P.info? t with
      | none => simp [hq] at hi
      | some q =>
        have hs : q.size = 1 := by simpa [hq] using hi
        simp only [Nat.add_zero] at this
        simp [storeVar, sizeOf, typeInfo, hq, hv, hs, this, World.setCells]
    unfold Oper.wp execOp
    simp only [ho, hx, hy, Instr.storeAt, Instr.sureAddr, Sem.run_bind, Sem.run_pure, Result.andThen_ok, hrun]
    exact hK _ _ (h _ (hb.set hlt v) ⟨fun B hB => (Below.refl B w).setCell (p := ⟨g, i, none⟩) hB v, by simp, fun k hk => Below.heap_setCell _ _ _ _ (fun e => hk e)⟩)
end
end Go.Proofs.Ytmihgdjnjfjjcaa

/- The place of the first that is so; what is kept of a row. Plain mathematics. -/
namespace Go.Proofs.Ytmihgdjnjfjjcaa
section
variable {α : Type} {p q : α → Bool} {xs us : List α} {i j k : Nat}
/-- The place of the first that is so; -1: none. -/
def idxL (p : α → Bool) (xs : List α) : Int := match xs.findIdx? p with | some k => (k : Int) | none => -1
theorem idxL_some (hk : k < xs.length) (hno : ∀ j (h : j < xs.length), j < k → p xs[j] = false) (hp : p xs[k] = true) : idxL p xs = k := by
  have : xs.findIdx? p = some k := by
    rw [List.findIdx?_eq_some_iff_getElem]
    exact ⟨hk, hp, fun j hj => by rw [hno j (by omega) hj]; simp⟩
  unfold idxL; rw [this]
theorem idxL_none (hno : ∀ j (h : j < xs.length), p xs[j] = false) : idxL p xs = -1 := by
  have : xs.findIdx? p = none := by
    rw [List.findIdx?_eq_none_iff]
    intro x hx
    obtain ⟨j, hj, rfl⟩ := List.mem_iff_getElem.1 hx
    exact hno j hj
  unfold idxL; rw [this]
/-- The two ways of it. -/
theorem idxL_ways (p : α → Bool) (xs : List α) : (idxL p xs = -1 ∧ ∀ x ∈ xs, p x = false) ∨ ∃ k, ∃ hk : k < xs.length, idxL p xs = k ∧ p xs[k] = true ∧ ∀ j (h : j < xs.length), j < k → p xs[j] = false := by
  unfold idxL
  cases h : xs.findIdx? p with
  | none => exact .inl ⟨rfl, List.findIdx?_eq_none_iff.1 h⟩
  | some k =>
    obtain ⟨hk, h1, h2⟩ := List.findIdx?_eq_some_iff_getElem.1 h
    exact .inr ⟨k, hk, rfl, h1, fun j hj hlt => by simpa using h2 j hlt⟩
/-- The place found, told of the first that is so. -/
theorem idxL_find (p : α → Bool) (xs : List α) : (idxL p xs = -1 ∧ xs.find? p = none) ∨ ∃ k, ∃ hk : k < xs.length, idxL p xs = k ∧ xs.find? p = some xs[k] := by
  rcases idxL_ways p xs with ⟨h1, h2⟩ | ⟨k, hk, h1, h2, h3⟩
  · exact .inl ⟨h1, List.find?_eq_none.2 fun x hx => by rw [h2 x hx]; simp⟩
  · exact .inr ⟨k, hk, h1, List.find?_eq_some_iff_getElem.2 ⟨h2, k, hk, rfl, fun j hj => by rw [h3 j (by omega) hj]; rfl⟩⟩
/-- Whether what was looked for stands there. -/
def hitAt (cmp : α → Int) : Option α → Bool
  | some x => cmp x == 0
  | none => false
/-- DeleteFunc's rounds. -/
theorem df_keep (hj : j < xs.length) (hl : us.length = xs.length) (hij : i < j) (h1 : us.take i = (xs.take j).filter q) (h2 : us.drop j = xs.drop j) (hq : q xs[j] = true) :
    (us.set i xs[j]).take (i + 1) = (xs.take (j + 1)).filter q ∧ (us.set i xs[j]).drop (j + 1) = xs.drop (j + 1) := by
  constructor
  · rw [List.take_succ_eq_append_getElem (by rw [List.length_set]; omega), List.getElem_set_self, List.take_set_of_le (Nat.le_refl _), h1, List.take_succ_eq_append_getElem hj, List.filter_append, List.filter_cons, if_pos hq]; rfl
  · rw [List.drop_set_of_lt (by omega)]
    have := congrArg (List.drop 1) h2
    simpa using this
theorem df_drop (hj : j < xs.length) (h1 : us.take i = (xs.take j).filter q) (h2 : us.drop j = xs.drop j) (hq : q xs[j] = false) :
    us.take i = (xs.take (j + 1)).filter q ∧ us.drop (j + 1) = xs.drop (j + 1) := by
  constructor
  · rw [h1, List.take_succ_eq_append_getElem hj, List.filter_append, List.filter_cons, if_neg (by rw [hq]; simp)]; simp
  · have := congrArg (List.drop 1) h2
    simpa using this
theorem df_at (hj : j < xs.length) (hl : us.length = xs.length) (h2 : us.drop j = xs.drop j) : us[j]'(by omega) = xs[j] := by
  have := congrArg (fun l => l[0]?) h2
  simp only [List.getElem?_drop, Nat.add_zero, List.getElem?_eq_getElem hj, List.getElem?_eq_getElem (show j < us.length by omega), Option.some.injEq] at this
  exact this
theorem df_start (hk : k < xs.length) (hp : q xs[k] = false) (hno : ∀ j (h : j < xs.length), j < k → q xs[j] = true) : xs.take k = (xs.take (k + 1)).filter q := by
  rw [List.take_succ_eq_append_getElem hk, List.filter_append, List.filter_cons, if_neg (by rw [hp]; simp), List.filter_nil, List.append_nil]
  symm
  rw [List.filter_eq_self]
  intro x hx
  obtain ⟨j, hj, rfl⟩ := List.mem_iff_getElem.1 hx
  rw [List.length_take] at hj
  rw [List.getElem_take]
  exact hno j (by omega) (by omega)
end
end Go.Proofs.Ytmihgdjnjfjjcaa

/- slices.IndexFunc: the place of the first that is so. -/
namespace Go.Proofs.Ytmihgdjnjfjjcaa
open Go.ChangeShapes Go.WideShapes Go.ChangeAt Go.RowKit
set_option maxRecDepth 100000

set_option maxHeartbeats 1000000 in
theorem indexFuncPrg (xs : List Prg) (a : Option Addr) (n c : Nat) (fid : FuncId) (cap : Array Value) (p : Prg → Bool) (w : World) (hn : xs.length = n) (hl : n ≤ maxLen) (hr : LRow layPrg w a xs)
    (hcf : ∀ (args : Array Value) (w : World), (callFunc fid args).run Try.prog w = .ok (.enter fid args) w)
    (hf : ∀ x ∈ xs, ∀ w', Below w.heap.size w w' → Calls Try.prog fid (#[(layPrg).val x] ++ cap) w' fun e w'' => e = .returned (.bool (p x)) ∧ Below w'.heap.size w' w'') :
    Calls Try.prog 35 #[.slice a n c, .func (.func fid) #[] cap] w fun e w' => e = .returned (.int .i64 (idxL p xs)) ∧ Below w.heap.size w w' := by
  subst hn
  have hl2 := lt_maxLen hl
  have HI := Lib.hid (fun k (hk : k < xs.length) => idxL_some (p := p) hk)
  have HN := Lib.hid (idxL_none (p := p) (xs := xs))
  have HF := Lib.hid hf
  generalize idxL p xs = res at HI HN ⊢
  clear hf
  go_enter Try.func35, Try.ntmps35
  go_wp2
  go_loopw [8] (fun i wr => ∃ k : Nat, k ≤ xs.length ∧ i = .int .i64 k ∧ (∀ j (h : j < xs.length), j < k → p xs[j] = false) ∧ Below w.heap.size w wr) (fun i _ => xs.length - (intOf i).toNat)
  case atStart => exact ⟨0, by omega, rfl, by omega, Below.refl _ _⟩
  case round =>
    obtain ⟨k, hk, rfl, hno, hb⟩ := hrel
    have HNO := Lib.hid hno
    clear hno
    by_cases hlt : k < xs.length
    · obtain ⟨b, o, rfl, hcs⟩ := hr.range hlt
      have hrange := Lib.hid (hcs _ hb)
      have HF1 := Lib.hid (HF.out xs[k] (List.getElem_mem hlt) wr hb)
      clear hcs
      cases hp : p xs[k] with
      | true =>
        go_wp2_with (first
          | (refine wpList_load_lay layPrg rfl _ rfl b (o + k * (layPrg).size) rfl _ hrange.out ?_)
          | (refine HF1.out.mono ?_; rw [hp]; rintro e w2 ⟨rfl, hb2⟩))
        go_returns
        exact ⟨ret_int (HI.out k hlt HNO.out hp).symm, hb.trans (hb2.mono hb.size)⟩
      | false =>
        go_wp2_with (first
          | (refine wpList_load_lay layPrg rfl _ rfl b (o + k * (layPrg).size) rfl _ hrange.out ?_)
          | (refine HF1.out.mono ?_; rw [hp]; rintro e w2 ⟨rfl, hb2⟩))
        go_roundw
        case rel => exact ⟨k + 1, by omega, by go_num, fun j h hj => by rcases Nat.lt_succ_iff_lt_or_eq.1 hj with h1 | rfl; exact HNO.out j h h1; exact hp, hb.trans (hb2.mono hb.size)⟩
        case measure => simp [intOf]; omega
    · go_wp2
      go_returns
      exact ⟨ret_int (HN.out fun j h => HNO.out j h (by omega)).symm, hb⟩
end Go.Proofs.Ytmihgdjnjfjjcaa

namespace Go.Proofs.Ytmihgdjnjfjjcaa
open Go.ChangeShapes Go.WideShapes Go.ChangeAt Go.RowKit
set_option maxRecDepth 100000

theorem open_prg {H : Type} {enc : TypeId × Value → H} {w : World} {cs : List Value} (h : Rd enc Try.prog w 39 cs) : ∃ x : Prg, cs = x.cells := by
  obtain ⟨hl, hf⟩ := h.struct Try.underlying39
  have hn : Try.prog.cellsOf 39 = 3 := by kernel_rfl
  have z_int : Try.prog.cellsOf 3 = 1 := by kernel_rfl
  rw [hn] at hl
  match cs, hl with
  | [v0, v1, v2], _ =>
    have f0 : Rd enc Try.prog w 3 ((([v0, v1, v2] : List Value).drop 0).take (Try.prog.cellsOf 3)) := hf 0 _ rfl
    rw [z_int] at f0
    replace f0 : Rd enc Try.prog w 3 [v0] := f0
    obtain ⟨x0, e0, -⟩ := f0.int Try.underlying3
    have f1 : Rd enc Try.prog w 3 ((([v0, v1, v2] : List Value).drop 1).take (Try.prog.cellsOf 3)) := hf 1 _ rfl
    rw [z_int] at f1
    replace f1 : Rd enc Try.prog w 3 [v1] := f1
    obtain ⟨x1, e1, -⟩ := f1.int Try.underlying3
    have f2 : Rd enc Try.prog w 3 ((([v0, v1, v2] : List Value).drop 2).take (Try.prog.cellsOf 3)) := hf 2 _ rfl
    rw [z_int] at f2
    replace f2 : Rd enc Try.prog w 3 [v2] := f2
    obtain ⟨x2, e2, -⟩ := f2.int Try.underlying3
    simp only [List.cons.injEq, and_true] at e0 e1 e2
    subst e0
    subst e1
    subst e2
    exact ⟨⟨x0, x1, x2⟩, rfl⟩
theorem open_prgs {H : Type} {enc : TypeId × Value → H} {w : World} {a : Option Addr} {len cap : Nat} (h : Rd enc Try.prog w 25 [.slice a len cap]) :
    ∃ ts : List Prg, ts.length = len ∧ len ≤ cap ∧ cap ≤ maxLen ∧ (a = none → cap = 0) ∧ LRow layPrg w a ts := by
  obtain ⟨xs, h1, h2, h3, _, h5, _, hr⟩ := Rd.rows (α := Prg) (cells := Prg.cells) (size := 3) (good := fun _ => True) (fun _ => rfl) (by decide) Try.underlying25 (by kernel_rfl) (fun cs hcs => by obtain ⟨x, hx⟩ := open_prg hcs; exact ⟨x, hx, trivial⟩) h
  exact ⟨xs, h1, h2, h3, h5, hr⟩
end Go.Proofs.Ytmihgdjnjfjjcaa

/- Where an append's row lies: in a new block, or where it lay. (printed by gen_near.py) -/
namespace Go.Proofs.Ytmihgdjnjfjjcaa
open Go.ChangeShapes Go.WideShapes Go.ChangeAt Go.RowKit
set_option maxRecDepth 100000

/-- Where an append's row lies: in a new block, or where it lay. -/
theorem canNear {P : Program} {w : World} {t e : TypeId} {size bytes : Nat} (el : Elem P t e size bytes) (ty : TypeId) (D : Nat) (a : Option Addr) (n c : Nat) (xs : List Value) (hcan : Can w D e size a n c xs)
    (ad : Option Addr) (m k : Nat) (news : List Value) (hl : news.length = m * size) (hr : Row w ad news) (h1 : ∀ u ∈ news, u.oneCell' = true) (hbytes : (n + m) * bytes ≤ 140737488355328) (hm : 0 < m)
    {a' : Option Addr} {c' : Nat} {w' : World} (hrun : (Builtin.append_ #[t, t] ty #[.slice a n c, .slice ad m k]).run P w = .ok (.slice a' (n + m) c') w') : Near w.heap.size a a' := by
  obtain ⟨i, z, hi, hz, hsize, hby, hzs⟩ := el.info
  have hp := el.pos
  have hb := el.bpos
  subst hsize
  subst hby
  have h63 : n + m ≤ 9223372036854775807 := by
    have : n + m ≤ (n + m) * i.bytes := Nat.le_mul_of_pos_right _ hb
    omega
  obtain ⟨ad', rfl⟩ : ∃ x, ad = some x := by
    cases ad with
    | some x => exact ⟨x, rfl⟩
    | none =>
      rcases hr with rfl | ⟨_, _, h, _⟩
      · rw [List.length_nil] at hl
        have := Nat.mul_pos hm hp
        omega
      · cases h
  have hnews := hr.holds
  cases a with
  | none =>
    have hc0 : c = 0 := hcan.none hp rfl
    have hn0 : n = 0 := by have := hcan.le; omega
    subst hc0
    subst hn0
    have h2 := Go.run_append_nil (P := P) w t ty e i z el.under hi hz ad' m k news hl hnews hm (by omega) (by have h3 := hbytes; rw [Nat.zero_add] at h3; omega)
    rw [h2] at hrun
    simp only [Result.ok.injEq, Value.slice.injEq] at hrun
    intro b o s hs
    rw [← hrun.1.1] at hs
    simp only [Option.some.injEq, Addr.mk.injEq] at hs
    left; omega
  | some x =>
    by_cases hroom : n + m ≤ c
    · rcases hcan.2.2 with ⟨h3, _⟩ | hown
      · omega
      · rcases hown.2 with ⟨h0, _⟩ | ⟨g', cap', cur, hv, _⟩
        · cases h0
        · simp only [Value.slice.injEq] at hv
          obtain ⟨hx, -, -⟩ := hv
          simp only [Option.some.injEq] at hx
          subst hx
          obtain ⟨w2, h2, -, -⟩ := run_append_own_spare (P := P) w D t ty e i i.size el.under hi rfl g' n c xs hown ad' m k news hl hnews h1 hroom
          rw [h2] at hrun
          simp only [Result.ok.injEq, Value.slice.injEq] at hrun
          rw [← hrun.1.1]
          exact Near.self _ _
    · have h2 := run_append_grow (P := P) w t ty e i z el.under hi hz x n c xs hcan.1 hcan.row.holds ad' m k news hl hnews (by omega) (by omega) (growslice_fits (by omega) hbytes)
      rw [h2] at hrun
      simp only [Result.ok.injEq, Value.slice.injEq] at hrun
      intro b o s hs
      rw [← hrun.1.1] at hs
      simp only [Option.some.injEq, Addr.mk.injEq] at hs
      left; omega
theorem wpList_nearE {P : Program} {w : World} {ops : Array Oper} {rest : List Oper} {o : Oper} {ac : Act} {Q : Exit → Act → World → Prop} {t e : TypeId} {size bytes : Nat} (el : Elem P t e size bytes) (hgd : o.guard = none) (s x : Operand)
    (ho : o.op = .call { callee := .builtin .append, args := #[s, x], argTypes := #[t, t] })
    (D : Nat) (a : Option Addr) (n c : Nat) (xs : List Value) (hs : ac.eval s = .slice a n c) (hcan : Can w D e size a n c xs)
    (ad : Option Addr) (m k : Nat) (news : List Value) (hx : ac.eval x = .slice ad m k) (hl : news.length = m * size) (hr : Row w ad news) (h1 : ∀ u ∈ news, u.oneCell' = true)
    (hbytes : (n + m) * bytes ≤ 140737488355328) (hD : D ≤ w.heap.size)
    (h : ∀ a' c' w', Can w' D e size a' (n + m) c' (xs ++ news) → w.grownBy w' (Value.slice a n c).ownBlock → Near w.heap.size a a' → wpList P ops Q rest (ac.put o.dst (.slice a' (n + m) c')) w') : wpList P ops Q (o :: rest) ac w := by
  obtain ⟨a', c', w', hrun, h2, h3, h4, h5⟩ := run_can el o.type D a n c xs hcan ad m k news hl hr h1 hbytes hD
  have hn : Near w.heap.size a a' := by
    by_cases hm : m = 0
    · rw [(h5.2 hm).1]; exact Near.self _ _
    · exact canNear el o.type D a n c xs hcan ad m k news hl hr h1 hbytes (by omega) hrun
  refine wpList_plain hgd fun K hK => ?_
  unfold Oper.wp execOp
  simp only [ho, resolve, invoke, builtin, Sem.run_bind, Sem.run_pure, Result.andThen_ok, List.map_toArray, List.map_cons, List.map_nil, hs, hx, hrun]
  exact hK _ _ (h a' c' w' h2 h3 hn)
end Go.Proofs.Ytmihgdjnjfjjcaa
