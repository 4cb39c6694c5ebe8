import Derived.Test.YtoofmofaimdhpaaRows
import Derived.WalkKit
import Derived.ProofKit
import Derived.Outline
import Derived.OpenShut
import Derived.ShutString
import Derived.ChangeOld
import Derived.Below
import Derived.Handy
import Derived.BigQuiet
import Derived.Deep.QuietTactic
import Derived.Deep.DeepFit
import Derived.StillTailTactics
import Derived.Deep.RegionWith
import Derived.ArgAppend
import Derived.Lib.Hide
import Derived.Lib.SlBytesConst
import Derived.WalkLawsBesides
import Derived.Deep.MidRow
import Derived.Laws.Externs
import Derived.Lib.Overlaps
import Derived.Lib.AppendZerosOnto
import Derived.Maps.OwnOps
import Derived.Maps.OwnSet
import Derived.WideKeyPair
import Derived.DeepKeys4
import Derived.WalkSpells
import Derived.Lib.Mul64
import Derived.Laws.Bits64b
set_option linter.unusedVariables false
set_option linter.unusedSimpArgs false
/- What all the walks of this seat lean on: bytes and rows of cells in memory. -/
namespace Go.Proofs.Ytoofmofaimdhpaa
open Go.ChangeShapes Go.WideShapes Go.ChangeAt Go.RowKit
set_option maxRecDepth 100000

theorem ret_int {k : IntKind} {a b : Int} (h : a = b) : Ending.returned (.int k a) = .returned (.int k b) := by rw [h]
theorem val_int {k : IntKind} {a b : Int} (h : a = b) : Value.int k a = .int k b := by rw [h]
theorem ret_bool {a b : Bool} (h : a = b) : Ending.returned (.bool a) = .returned (.bool b) := by rw [h]
/-- A byte as a value. -/
abbrev B (x : UInt8) : Value := .int .u8 (x.toNat : Int)
/-- From the address on, the memory reads as these cells. -/
def Row (w : World) (a : Option Addr) (xs : List Value) : Prop :=
  xs = [] ∨ ∃ b o, a = some ⟨b, o, none⟩ ∧ ∀ i (h : i < xs.length), w.cell? ⟨b, o + i, none⟩ = some xs[i]
abbrev RowB (w : World) (a : Option Addr) (l : List UInt8) : Prop := Row w a (l.map B)

theorem Row.nil (w : World) (a : Option Addr) : Row w a [] := .inl rfl
theorem Row.at {w : World} {a : Option Addr} {xs : List Value} (h : Row w a xs) {k : Nat} (hk : k < xs.length) :
    ∃ b o, a = some ⟨b, o, none⟩ ∧ ∀ i (h : i < xs.length), w.cell? ⟨b, o + i, none⟩ = some xs[i] := by
  rcases h with rfl | h
  · simp at hk
  · exact h
theorem RowB.at {w : World} {a : Option Addr} {l : List UInt8} (h : RowB w a l) {k : Nat} (hk : k < l.length) :
    ∃ b o, a = some ⟨b, o, none⟩ ∧ ∀ i (h : i < l.length), w.cell? ⟨b, o + i, none⟩ = some (.int .u8 (l[i].toNat : Int)) := by
  obtain ⟨b, o, ha, hc⟩ := Row.at h (k := k) (by simpa using hk)
  exact ⟨b, o, ha, fun i hi => by have := hc i (by simpa using hi); rw [List.getElem_map] at this; exact this⟩

theorem maxLen_eq : maxLen = 9223372036854775807 := by decide
theorem le_maxLen {n : Nat} (h : n ≤ 1048576) : n ≤ maxLen := Nat.le_trans h (by decide)
theorem lt_maxLen {n : Nat} (h : n ≤ maxLen) : n ≤ 9223372036854775807 := maxLen_eq ▸ h

/-- What the table says of a slice type and its elements. -/
structure Elem (P : Program) (t e : TypeId) (size bytes : Nat) : Prop where
  under : P.underlying t = some (.slice e)
  info : ∃ i z, P.info? e = some i ∧ i.zero = some z ∧ i.size = size ∧ i.bytes = bytes ∧ z.cells.size = size
  pos : 0 < size
  bpos : 0 < bytes

theorem run_firstCells_nil {P : Program} (w : World) (size n c : Nat) : (Builtin.firstCells size 0 (.slice none n c)).run P w = .ok #[] w := by
  simp [Builtin.firstCells]

theorem run_append_nil {P : Program} {w : World} (base : Nat) (t ty e : TypeId) (i : TypeInfo) (size : Nat) (ht : P.underlying t = some (.slice e)) (hi : P.info? e = some i)
    (v : Value) (n c : Nat) (xs : List Value) (hown : w.ownsRow base e size v n xs) :
    (Builtin.append_ #[t, t] ty #[v, .slice none 0 c]).run P w = .ok v w := by
  rcases hown.2 with ⟨rfl, rfl⟩ | ⟨g, cap, cur, rfl, _, _, hnc, _⟩
  · simp [Builtin.append_, run_underlying ht, sizeOf, typeInfo, hi, Builtin.lenOf, Builtin.firstCells]
  · simp [Builtin.append_, run_underlying ht, sizeOf, typeInfo, hi, Builtin.lenOf, Builtin.firstCells, hnc, storeCells]

theorem own_slice {w : World} {base : Nat} {e : TypeId} {size : Nat} {v : Value} {n : Nat} {xs : List Value} (h : w.ownsRow base e size v n xs) :
    ∃ a c, v = .slice a n c ∧ n ≤ c ∧ c ≤ maxLen ∧ (a = none → c = 0) := by
  rcases h.2 with ⟨rfl, rfl⟩ | ⟨g, cap, cur, rfl, _, _, hnc, hm, _⟩
  · exact ⟨none, 0, rfl, Nat.le_refl _, Nat.zero_le _, fun _ => rfl⟩
  · exact ⟨_, cap, rfl, hnc, hm, fun h => by simp at h⟩

theorem own_row {w : World} {base : Nat} {e : TypeId} {size : Nat} {a : Option Addr} {n c : Nat} {xs : List Value} (h : w.ownsRow base e size (.slice a n c) n xs) : Row w a xs := by
  obtain ⟨hl, h⟩ := h
  rcases h with ⟨hv, rfl⟩ | ⟨g, cap, cur, hv, _, hg, hnc, hm, hs, ht⟩
  · exact .inl (List.eq_nil_of_length_eq_zero (by simpa using hl))
  · simp only [Value.slice.injEq] at hv
    obtain ⟨rfl, _, rfl⟩ := hv
    refine .inr ⟨g, 0, rfl, fun i hi => ?_⟩
    subst ht
    have hi2 : i < n * size := by simp at hi; omega
    have h2 : n * size ≤ cur.size := by rw [hs]; exact Nat.mul_le_mul_right _ hnc
    simp only [World.cell?, hg, Nat.zero_add, Option.isSome_none, Bool.false_eq_true, if_false]
    rw [Array.getElem?_eq_getElem (by omega)]
    simp

theorem wpList_app {P : Program} {w : World} {ops : Array Oper} {rest : List Oper} {o : Oper} {a : Act} {Q : Exit → Act → World → Prop} {t e : TypeId} {size bytes : Nat} (el : Elem P t e size bytes) (hgd : o.guard = none) (s x : Operand)
    (ho : o.op = .call { callee := .builtin .append, args := #[s, x], argTypes := #[t, t] })
    (base : Nat) (v : Value) (n : Nat) (xs : List Value) (hs : a.eval s = v) (hown : w.ownsRow base e size v n xs)
    (ad : Option Addr) (m c : Nat) (news : List Value) (hx : a.eval x = .slice ad m c) (hl : news.length = m * size) (hr : Row w ad news) (h1 : ∀ u ∈ news, u.oneCell' = true)
    (hbytes : (n + m) * bytes ≤ 140737488355328) (hbase : base ≤ w.heap.size)
    (h : ∀ a' c' w', w'.ownsRow base e size (.slice a' (n + m) c') (n + m) (xs ++ news) → w.grownBy w' v.ownBlock → wpList P ops Q rest (a.put o.dst (.slice a' (n + m) c')) w') : wpList P ops Q (o :: rest) a w := by
  obtain ⟨i, z, hi, hz, hsize, hby, hzs⟩ := el.info
  have hb := el.bpos
  have h63 : n + m ≤ maxLen := by
    have : n + m ≤ (n + m) * bytes := Nat.le_mul_of_pos_right _ hb
    unfold maxLen; omega
  cases ad with
  | some ad =>
    refine wpList_append_own w hgd s x t ho base e i z size bytes el.under hi hz hsize hby hzs el.pos v n xs hs hown ad m c news hx hl ?_ h1 h63 hbytes hbase ?_
    · intro j u hj
      rcases hr with rfl | ⟨b, o, ha, hc⟩
      · simp at hj
      · simp only [Option.some.injEq] at ha
        subst ha
        obtain ⟨hj1, rfl⟩ := List.getElem?_eq_some_iff.1 hj
        have := hc j hj1
        by_cases h0 : j = 0
        · subst h0; simpa [Addr.add] using this
        · simpa [Addr.add, h0] using this
    · intro v' w' ho' hg' _
      obtain ⟨a', c', rfl, _⟩ := own_slice ho'
      exact h a' c' w' ho' hg'
  | none =>
    rcases hr with rfl | ⟨b, o, ha, hc⟩
    · have hm : m = 0 := by
        have hp := el.pos
        rcases Nat.eq_zero_or_pos m with h | h
        · exact h
        · have := Nat.mul_pos h hp
          simp at hl
          omega
      subst hm
      refine wpList_plain hgd fun K hK => ?_
      unfold Oper.wp execOp
      have hrun2 := run_append_nil (P := P) (w := w) base t o.type e i size el.under hi v n c xs hown
      simp only [ho, resolve, invoke, builtin, Sem.run_bind, Sem.run_pure, Result.andThen_ok, List.map_toArray, List.map_cons, List.map_nil, hs, hx, hrun2]
      obtain ⟨a', c', rfl, _⟩ := own_slice hown
      refine hK _ _ (h a' c' w ?_ ⟨rfl, rfl, rfl, Nat.le_refl _, fun _ _ _ => rfl⟩)
      rw [Nat.add_zero, List.append_nil]
      exact hown
    · simp at ha

theorem Row.lt {w : World} {b o : Nat} {xs : List Value} (h : Row w (some ⟨b, o, none⟩) xs) (h0 : xs ≠ []) : b < w.heap.size := by
  rcases h with h | ⟨b', o', ha, hc⟩
  · exact absurd h h0
  · simp at ha
    obtain ⟨rfl, rfl⟩ := ha
    exact World.block_lt_of_cell? w _ (hc 0 (List.length_pos_iff.2 h0))
theorem Row.get {w : World} {a : Option Addr} {xs : List Value} {k : Nat} {x : Value} (h : Row w a xs) (hk : xs[k]? = some x) :
    ∃ b o, a = some ⟨b, o, none⟩ ∧ w.cell? ⟨b, o + k, none⟩ = some x := by
  obtain ⟨hlt, rfl⟩ := List.getElem?_eq_some_iff.1 hk
  obtain ⟨b, o, rfl, hc⟩ := h.at hlt
  exact ⟨b, o, rfl, hc k hlt⟩
/-- What is read stays where no old block has turned. -/
theorem Row.below {w w' : World} {a : Option Addr} {xs : List Value} (h : Row w a xs) (hb : Below w.heap.size w w') : Row w' a xs := by
  by_cases h0 : xs = []
  · exact .inl h0
  · rcases h with h | ⟨b, o, rfl, hc⟩
    · exact absurd h h0
    · have hlt := Row.lt (.inr ⟨b, o, rfl, hc⟩) h0
      exact .inr ⟨b, o, rfl, fun i hi => (hb.cell (p := ⟨b, o + i, none⟩) hlt).trans (hc i hi)⟩
theorem Row.alloc {w : World} {a : Option Addr} {xs : List Value} (h : Row w a xs) (o : Obj) : Row (w.alloc o) a xs := h.below ((Below.refl _ _).alloc (Nat.le_refl _) o)
theorem Row.drew {w : World} {a : Option Addr} {xs : List Value} (h : Row w a xs) : Row w.drew a xs := h
/-- A row of cells known whole. -/
theorem Row.of_block {w : World} {g : Nat} {cs : Array Value} {e : TypeId} {f : Nat × Nat} (h : w.heap[g]? = some (.cells cs e f)) : Row w (some ⟨g, 0, none⟩) cs.toList := by
  refine .inr ⟨g, 0, rfl, fun i hi => ?_⟩
  simp only [World.cell?, h, Nat.zero_add, Option.isSome_none, Bool.false_eq_true, if_false]
  rw [Array.getElem?_eq_getElem (by simpa using hi)]
  simp
theorem Row.new (w : World) (cs : Array Value) (e : TypeId) (f : Nat × Nat) : Row (w.alloc (.cells cs e f)) (some ⟨w.heap.size, 0, none⟩) cs.toList := Row.of_block (heap_alloc_new w _)
theorem Row.setFar {w : World} {g : Nat} {xs : List Value} (h : Row w (some ⟨g, 0, none⟩) xs) {p : Addr} (hp : p.block ≠ g) (v : Value) : Row (w.setCell p v) (some ⟨g, 0, none⟩) xs := by
  rcases h with h | ⟨b, o, ha, hc⟩
  · exact .inl h
  · simp only [Option.some.injEq, Addr.mk.injEq, and_true] at ha
    obtain ⟨rfl, rfl⟩ := ha
    exact .inr ⟨g, 0, rfl, fun i hi => (World.cell?_setCell_other w p _ v (fun e => hp (congrArg Addr.block e))).trans (hc i hi)⟩
theorem Row.take {w : World} {a : Option Addr} {xs : List Value} (h : Row w a xs) (j : Nat) : Row w a (xs.take j) := by
  rcases h with rfl | ⟨b, o, ha, hc⟩
  · exact .inl (by simp)
  · exact .inr ⟨b, o, ha, fun i hi => by
      have hi2 : i < xs.length := by simp at hi; omega
      rw [hc i hi2]; simp⟩
theorem Row.drop {w : World} {b o : Nat} {xs : List Value} (h : Row w (some ⟨b, o, none⟩) xs) (j : Nat) : Row w (some ⟨b, o + j, none⟩) (xs.drop j) := by
  rcases h with rfl | ⟨b', o', ha, hc⟩
  · exact .inl (by simp)
  · simp only [Option.some.injEq, Addr.mk.injEq, and_true] at ha
    obtain ⟨rfl, rfl⟩ := ha
    exact .inr ⟨b, o + j, rfl, fun i hi => by
      have hi2 : j + i < xs.length := by simp at hi; omega
      have := hc (j + i) hi2
      rw [Nat.add_assoc, this]; simp⟩
theorem Row.getBelow {w : World} {a : Option Addr} {xs : List Value} {k : Nat} {x : Value} (h : Row w a xs) (hk : xs[k]? = some x) :
    ∃ b o, a = some ⟨b, o, none⟩ ∧ ∀ w', Below w.heap.size w w' → w'.cell? ⟨b, o + k, none⟩ = some x := by
  obtain ⟨b, o, rfl, hc⟩ := h.get hk
  exact ⟨b, o, rfl, fun w' hb => (hb.cell (p := ⟨b, o + k, none⟩) (World.block_lt_of_cell? w _ hc)).trans hc⟩
theorem Below.app {B0 : Nat} {w0 w w' : World} {e : TypeId} {size n : Nat} {v : Value} {xs : List Value} (h : Below B0 w0 w) (hown : w.ownsRow B0 e size v n xs) (hg : w.grownBy w' v.ownBlock) (hB : B0 ≤ w.heap.size) : Below B0 w0 w' :=
  h.grown hg hB fun k hk => (hown.lt k hk).1
theorem flatMap_at {α : Type} {cells : α → List Value} {size : Nat} (hs : ∀ x, (cells x).length = size) : ∀ {xs : List α} {i r : Nat}, r < size → (xs.flatMap cells)[i * size + r]? = (xs[i]?).bind fun x => (cells x)[r]?
  | [], i, r, _ => by simp
  | x :: xs, 0, r, hr => by
    simp only [List.flatMap_cons, Nat.zero_mul, Nat.zero_add, List.getElem?_cons_zero, Option.bind_some]
    rw [List.getElem?_append_left (by rw [hs]; exact hr)]
  | x :: xs, i + 1, r, hr => by
    simp only [List.flatMap_cons, List.getElem?_cons_succ]
    rw [List.getElem?_append_right (by rw [hs, Nat.succ_mul]; omega), hs, Nat.succ_mul, show i * size + size + r - size = i * size + r from by omega]
    exact flatMap_at hs hr
theorem flatMap_one {α β : Type} (f : α → β) (xs : List α) : xs.flatMap (fun x => [f x]) = xs.map f := by
  induction xs with
  | nil => rfl
  | cons x xs ih => rw [List.flatMap_cons, ih]; rfl
theorem flatMap_len {α : Type} {cells : α → List Value} {size : Nat} (hs : ∀ x, (cells x).length = size) (xs : List α) : (xs.flatMap cells).length = xs.length * size := by
  induction xs with
  | nil => simp
  | cons x xs ih => rw [List.flatMap_cons, List.length_append, ih, hs, List.length_cons, Nat.succ_mul]; omega

theorem Row.holds {w : World} {ad : Addr} {xs : List Value} (h : Row w (some ad) xs) : ∀ j u, xs[j]? = some u → w.cell? (ad.add j) = some u := by
  intro j u hj
  rcases h with rfl | ⟨b, o, ha, hc⟩
  · simp at hj
  · simp only [Option.some.injEq] at ha
    subst ha
    obtain ⟨hj1, rfl⟩ := List.getElem?_eq_some_iff.1 hj
    have := hc j hj1
    by_cases h0 : j = 0
    · subst h0; simpa [Addr.add] using this
    · simpa [Addr.add, h0] using this

/-- A slice that may be appended to: it is full (so an append makes a new row), or it is a row of the call's own, from block B on. -/
def Can (w : World) (B : Nat) (e : TypeId) (size : Nat) (a : Option Addr) (n c : Nat) (xs : List Value) : Prop :=
  xs.length = n * size ∧ n ≤ maxLen ∧ ((n = c ∧ Row w a xs) ∨ w.ownsRow B e size (.slice a n c) n xs)

theorem Can.nil (w : World) (B : Nat) (e : TypeId) (size : Nat) : Can w B e size none 0 0 [] := ⟨by simp, Nat.zero_le _, .inl ⟨rfl, .inl rfl⟩⟩
theorem Can.empty (w : World) (B : Nat) (e : TypeId) (size : Nat) (a : Option Addr) : Can w B e size a 0 0 [] := ⟨by simp, Nat.zero_le _, .inl ⟨rfl, .inl rfl⟩⟩
theorem Can.full {w : World} {B : Nat} {e : TypeId} {size : Nat} {a : Option Addr} {n : Nat} {xs : List Value} (h : Row w a xs) (hl : xs.length = n * size) (hn : n ≤ maxLen) : Can w B e size a n n xs := ⟨hl, hn, .inl ⟨rfl, h⟩⟩
theorem Can.row {w : World} {B : Nat} {e : TypeId} {size : Nat} {a : Option Addr} {n c : Nat} {xs : List Value} (h : Can w B e size a n c xs) : Row w a xs := by
  rcases h.2.2 with ⟨_, h⟩ | h
  · exact h
  · exact own_row h
theorem Can.le {w : World} {B : Nat} {e : TypeId} {size : Nat} {a : Option Addr} {n c : Nat} {xs : List Value} (h : Can w B e size a n c xs) : n ≤ c := by
  rcases h.2.2 with ⟨h, _⟩ | h
  · omega
  · obtain ⟨a', c', hv, hl, _⟩ := own_slice h
    simp only [Value.slice.injEq] at hv
    omega
theorem Can.none {w : World} {B : Nat} {e : TypeId} {size : Nat} {a : Option Addr} {n c : Nat} {xs : List Value} (h : Can w B e size a n c xs) (hp : 0 < size) : a = none → c = 0 := by
  intro ha
  rcases h.2.2 with ⟨rfl, hr⟩ | h2
  · rcases hr with rfl | ⟨_, _, h3, _⟩
    · rcases Nat.eq_zero_or_pos n with h4 | h4
      · exact h4
      · have := Nat.mul_pos h4 hp
        have h0 := h.1
        simp at h0; omega
    · rw [ha] at h3; simp at h3
  · obtain ⟨a', c', hv, _, _, hc⟩ := own_slice h2
    simp only [Value.slice.injEq] at hv
    obtain ⟨rfl, _, rfl⟩ := hv
    exact hc ha
theorem own_block {w : World} {B : Nat} {e : TypeId} {size : Nat} {a : Option Addr} {n c : Nat} {xs : List Value} (h : w.ownsRow B e size (.slice a n c) n xs) : ∀ b o s, a = some ⟨b, o, s⟩ → B ≤ b := by
  intro b o s ha
  exact (h.lt b (by rw [ha]; rfl)).1
/-- A row's address lies in memory from B on, or in the source's block. -/
def Near (B : Nat) (src a : Option Addr) : Prop := ∀ b o s, a = some ⟨b, o, s⟩ → B ≤ b ∨ ∃ o' s', src = some ⟨b, o', s'⟩
theorem Near.self (B : Nat) (a : Option Addr) : Near B a a := fun b o s h => .inr ⟨o, s, h⟩
theorem Near.nil (B : Nat) (src : Option Addr) : Near B src none := fun _ _ _ h => by cases h
theorem Near.own {w : World} {B B' : Nat} {e : TypeId} {size : Nat} {a src : Option Addr} {n c : Nat} {xs : List Value} (h : w.ownsRow B e size (.slice a n c) n xs) (hB : B' ≤ B) : Near B' src a :=
  fun b o s ha => .inl (Nat.le_trans hB (own_block h b o s ha))
theorem Near.mono {B B' : Nat} {src a : Option Addr} (h : Near B src a) (hB : B' ≤ B) : Near B' src a := fun b o s ha => (h b o s ha).imp (Nat.le_trans hB) id
theorem Near.trans' {B : Nat} {a : Option Addr} (h : Near B none a) (src : Option Addr) : Near B src a := fun b o s ha => by
  rcases h b o s ha with h1 | ⟨_, _, h1⟩
  · exact .inl h1
  · cases h1
theorem Near.trans {B : Nat} {src a b : Option Addr} (h : Near B src a) (h2 : Near B a b) : Near B src b := fun x o s hb => by
  rcases h2 x o s hb with h3 | ⟨o', s', h3⟩
  · exact .inl h3
  · exact h x o' s' h3
theorem Row.setOther {w : World} {a : Option Addr} {xs : List Value} (h : Row w a xs) {p : Addr} (hp : ∀ b o s, a = some ⟨b, o, s⟩ → b ≠ p.block) (v : Value) : Row (w.setCell p v) a xs := by
  rcases h with h | ⟨b, o, ha, hc⟩
  · exact .inl h
  · exact .inr ⟨b, o, ha, fun i hi => (World.cell?_setCell_other w p _ v (fun e => hp b o none ha (congrArg Addr.block e).symm)).trans (hc i hi)⟩
theorem Can.drew {w : World} {B : Nat} {e : TypeId} {size : Nat} {a : Option Addr} {n c : Nat} {xs : List Value} (h : Can w B e size a n c xs) : Can w.drew B e size a n c xs := h

/-- append: where the base may be appended to and the source can be read. -/
theorem run_can {P : Program} {w : World} {t e : TypeId} {size bytes : Nat} (el : Elem P t e size bytes) (ty : TypeId) (B : Nat) (a : Option Addr) (n c : Nat) (xs : List Value) (hcan : Can w B e size a n c xs)
    (ad : Option Addr) (m k : Nat) (news : List Value) (hl : news.length = m * size) (hr : Row w ad news) (h1 : ∀ u ∈ news, u.oneCell' = true) (hbytes : (n + m) * bytes ≤ 140737488355328) (hB : B ≤ w.heap.size) :
    ∃ a' c' w', (Builtin.append_ #[t, t] ty #[.slice a n c, .slice ad m k]).run P w = .ok (.slice a' (n + m) c') w' ∧ Can w' B e size a' (n + m) c' (xs ++ news) ∧ w.grownBy w' (Value.slice a n c).ownBlock ∧ Below B w w' ∧ (0 < m → w'.ownsRow B e size (.slice a' (n + m) c') (n + m) (xs ++ news)) ∧ (m = 0 → a' = a ∧ c' = c) := by
  obtain ⟨i, z, hi, hz, hsize, hby, hzs⟩ := el.info
  have hb := el.bpos
  have hp := el.pos
  have h63 : n + m ≤ maxLen := by
    have : n + m ≤ (n + m) * bytes := Nat.le_mul_of_pos_right _ hb
    unfold maxLen; omega
  have hlen : (xs ++ news).length = (n + m) * size := by rw [List.length_append, hcan.1, hl, Nat.add_mul]
  by_cases hm : m = 0
  · subst hm
    obtain rfl : news = [] := List.eq_nil_of_length_eq_zero (by simpa using hl)
    refine ⟨a, c, w, ?_, ?_, ⟨rfl, rfl, rfl, Nat.le_refl _, fun _ _ _ => rfl⟩, Below.refl _ _, fun h => absurd h (by omega), fun _ => ⟨rfl, rfl⟩⟩
    · have hle := hcan.le
      have hfc : ∀ w' : World, (Builtin.firstCells size 0 (.slice ad 0 k)).run P w' = .ok #[] w' := fun w' => by
        cases ad with
        | none => simp [Builtin.firstCells]
        | some ad => exact run_firstCells_some w' size 0 ad 0 k [] (by simp) (fun j u h => by simp at h)
      rw [← hsize] at hfc
      cases a with
      | none => simp [Builtin.append_, run_underlying el.under, sizeOf, typeInfo, hi, Builtin.lenOf, hle, hfc]
      | some x => simp [Builtin.append_, run_underlying el.under, sizeOf, typeInfo, hi, Builtin.lenOf, hle, hfc, storeCells]
    · rw [Nat.add_zero, List.append_nil]; exact hcan
  · obtain ⟨ad', rfl⟩ : ∃ x, ad = some x := by
      cases ad with
      | some x => exact ⟨x, rfl⟩
      | none =>
        rcases hr with rfl | ⟨_, _, h, _⟩
        · have := Nat.mul_pos (Nat.pos_of_ne_zero hm) hp
          simp at hl; omega
        · simp at h
    rcases hcan.2.2 with ⟨rfl, hrow⟩ | hown
    · have fin : ∀ v' w', w'.ownsRow w.heap.size e size v' (n + m) (xs ++ news) → w.grownBy w' none →
          ∃ a' c', v' = .slice a' (n + m) c' ∧ Can w' B e size a' (n + m) c' (xs ++ news) ∧ w.grownBy w' (Value.slice a n n).ownBlock ∧ Below B w w' ∧ (0 < m → w'.ownsRow B e size (.slice a' (n + m) c') (n + m) (xs ++ news)) ∧ (m = 0 → a' = a ∧ c' = n) := by
        intro v' w' ho hg
        obtain ⟨a', c', rfl, hc1, hc2, _⟩ := own_slice ho
        have hB2 : w'.ownsRow B e size (.slice a' (n + m) c') (n + m) (xs ++ news) := by
          obtain ⟨ho1, ho2⟩ := ho
          refine ⟨ho1, ?_⟩
          rcases ho2 with h | ⟨g, cap, cur, h2, h3, h4⟩
          · exact .inl h
          · exact .inr ⟨g, cap, cur, h2, Nat.le_trans hB h3, h4⟩
        exact ⟨a', c', rfl, ⟨hlen, h63, .inr hB2⟩, ⟨hg.os, hg.tape, hg.output, hg.size, fun q hq _ => hg.block q hq (by simp)⟩, (Below.refl B w).grown hg hB (fun _ h => by cases h), fun _ => hB2, fun h => absurd h hm⟩
      cases a with
      | some x =>
        obtain ⟨v', w', hrun, ho, hg⟩ := run_append_arg_grows w t ty e i z size bytes el.under hi hz hsize hby hzs hp x n n xs hcan.1 hrow.holds ad' m k news hl hr.holds (by omega) h63 hbytes
        obtain ⟨a', c', rfl, h⟩ := fin v' w' ho hg
        exact ⟨a', c', w', hrun, h⟩
      | none =>
        have hx : xs = [] := by
          rcases hrow with h | ⟨_, _, h, _⟩
          · exact h
          · simp at h
        subst hx
        have hn : n = 0 := by
          rcases Nat.eq_zero_or_pos n with h | h
          · exact h
          · have := Nat.mul_pos h hp
            have h0 := hcan.1
            simp at h0
            omega
        subst hn
        obtain ⟨v', w', hrun, ho, hg, _⟩ := run_append_own w w.heap.size t ty e i z size bytes el.under hi hz hsize hby hzs hp (.slice none 0 0) 0 [] (World.ownsRow_nil _ _ _ _) ad' m k news hl hr.holds h1 h63 hbytes (Nat.le_refl _)
        obtain ⟨a', c', rfl, h⟩ := fin v' w' ho hg
        exact ⟨a', c', w', hrun, h⟩
    · obtain ⟨v', w', hrun, ho, hg, _⟩ := run_append_own w B t ty e i z size bytes el.under hi hz hsize hby hzs hp (.slice a n c) n xs hown ad' m k news hl hr.holds h1 h63 hbytes hB
      obtain ⟨a', c', rfl, hc1, hc2, _⟩ := own_slice ho
      exact ⟨a', c', w', hrun, ⟨hlen, h63, .inr ho⟩, hg, Below.app (Below.refl B w) hown hg hB, fun _ => ho, fun h => absurd h hm⟩

theorem wpList_can {P : Program} {w : World} {ops : Array Oper} {rest : List Oper} {o : Oper} {ac : Act} {Q : Exit → Act → World → Prop} {t e : TypeId} {size bytes : Nat} (el : Elem P t e size bytes) (hgd : o.guard = none) (s x : Operand)
    (ho : o.op = .call { callee := .builtin .append, args := #[s, x], argTypes := #[t, t] })
    (B : Nat) (a : Option Addr) (n c : Nat) (xs : List Value) (hs : ac.eval s = .slice a n c) (hcan : Can w B e size a n c xs)
    (ad : Option Addr) (m k : Nat) (news : List Value) (hx : ac.eval x = .slice ad m k) (hl : news.length = m * size) (hr : Row w ad news) (h1 : ∀ u ∈ news, u.oneCell' = true)
    (hbytes : (n + m) * bytes ≤ 140737488355328) (hB : B ≤ w.heap.size)
    (h : ∀ a' c' w', Can w' B e size a' (n + m) c' (xs ++ news) → w.grownBy w' (Value.slice a n c).ownBlock → Below B w w' → (0 < m → w'.ownsRow B e size (.slice a' (n + m) c') (n + m) (xs ++ news)) ∧ (m = 0 → a' = a ∧ c' = c) → wpList P ops Q rest (ac.put o.dst (.slice a' (n + m) c')) w') : wpList P ops Q (o :: rest) ac w := by
  obtain ⟨a', c', w', hrun, h2, h3, h4, h5⟩ := run_can el o.type B a n c xs hcan ad m k news hl hr h1 hbytes hB
  refine wpList_plain hgd fun K hK => ?_
  unfold Oper.wp execOp
  simp only [ho, resolve, invoke, builtin, Sem.run_bind, Sem.run_pure, Result.andThen_ok, List.map_toArray, List.map_cons, List.map_nil, hs, hx, hrun]
  exact hK _ _ (h a' c' w' h2 h3 h4 h5)

theorem flatMap_drop {α : Type} {cells : α → List Value} {size : Nat} (hs : ∀ x, (cells x).length = size) : ∀ (xs : List α) (k : Nat), (xs.flatMap cells).drop (k * size) = (xs.drop k).flatMap cells
  | [], k => by simp
  | x :: xs, 0 => by simp
  | x :: xs, k + 1 => by
    rw [List.flatMap_cons, List.drop_succ_cons, Nat.succ_mul, Nat.add_comm, ← hs x, ← List.drop_drop, List.drop_left, hs x]
    exact flatMap_drop hs xs k
theorem flatMap_take {α : Type} {cells : α → List Value} {size : Nat} (hs : ∀ x, (cells x).length = size) : ∀ (xs : List α) (k : Nat), (xs.flatMap cells).take (k * size) = (xs.take k).flatMap cells
  | [], k => by simp
  | x :: xs, 0 => by simp
  | x :: xs, k + 1 => by
    rw [List.flatMap_cons, List.take_succ_cons, List.flatMap_cons, Nat.succ_mul, Nat.add_comm, ← hs x, List.take_length_add_append, hs x]
    rw [flatMap_take hs xs k]

theorem step_can {P : Program} {w : World} {ops : Array Oper} {o : Oper} {ac : Act} {K : Act → World → Prop} {Q : Exit → Act → World → Prop} {E : Prop} {t e : TypeId} {size bytes : Nat} (el : Elem P t e size bytes) (hgd : o.guard = none) (s x : Operand)
    (ho : o.op = .call { callee := .builtin .append, args := #[s, x], argTypes := #[t, t] })
    (B : Nat) (a : Option Addr) (n c : Nat) (xs : List Value) (hs : ac.eval s = .slice a n c) (hcan : Can w B e size a n c xs)
    (ad : Option Addr) (m k : Nat) (news : List Value) (hx : ac.eval x = .slice ad m k) (hl : news.length = m * size) (hr : Row w ad news) (h1 : ∀ u ∈ news, u.oneCell' = true)
    (hbytes : (n + m) * bytes ≤ 140737488355328) (hB : B ≤ w.heap.size)
    (h : ∀ a' c' w', Can w' B e size a' (n + m) c' (xs ++ news) → w.grownBy w' (Value.slice a n c).ownBlock → Below B w w' → (0 < m → w'.ownsRow B e size (.slice a' (n + m) c') (n + m) (xs ++ news)) ∧ (m = 0 → a' = a ∧ c' = c) → K (ac.put o.dst (.slice a' (n + m) c')) w') :
    if Region.wanted o (yielded ops ac.tmps) = true then Oper.wp P o ac w K Q else E := by
  have hw : Region.wanted o (yielded ops ac.tmps) = true := by simp [Region.wanted, hgd]
  rw [if_pos hw]
  obtain ⟨a', c', w', hrun, h2, h3, h4, h5⟩ := run_can el o.type B a n c xs hcan ad m k news hl hr h1 hbytes hB
  unfold Oper.wp execOp
  simp only [ho, resolve, invoke, builtin, Sem.run_bind, Sem.run_pure, Result.andThen_ok, List.map_toArray, List.map_cons, List.map_nil, hs, hx, hrun]
  exact h a' c' w' h2 h3 h4 h5
theorem own_cells {w w' : World} {c : Array Value} {e : TypeId} (hb : Below (w.alloc (.cells c e)).heap.size (w.alloc (.cells c e)) w') : ∀ j, w'.cell? ⟨w.heap.size, j, none⟩ = c[j]? :=
  fun j => (hb.cell (p := ⟨w.heap.size, j, none⟩) (by simp)).trans (World.cell?_alloc_at _ _ _ j rfl)
theorem own_frozen {w w' : World} {c : Array Value} {e : TypeId} (hb : Below (w.alloc (.cells c e)).heap.size (w.alloc (.cells c e)) w') : ∀ j, w'.frozen? ⟨w.heap.size, j, none⟩ = false :=
  fun j => (hb.frozen (p := ⟨w.heap.size, j, none⟩) (by simp)).trans (World.frozen?_alloc_at _ _ _ j rfl)

theorem Below.more {w w1 : World} (h : Below w.heap.size w w1) (o : Obj) : Below w.heap.size w (w1.alloc o) := h.alloc h.size o
theorem Below.next {w w1 w2 : World} (h : Below w.heap.size w w1) (k : Below w1.heap.size w1 w2) : Below w.heap.size w w2 := h.trans (k.mono h.size)
theorem Below.put {w w1 : World} {p : Addr} (h : Below w.heap.size w w1) (hp : w.heap.size ≤ p.block) (u : Value) : Below w.heap.size w (w1.setCell p u) := h.setCell hp u
theorem Below.size' {w w1 : World} (h : Below w.heap.size w w1) : w.heap.size ≤ w1.heap.size := h.size
theorem below_drewN {B : Nat} {a w : World} (h : Below B a w) (n : Nat) : Below B a (w.drewN n) := ⟨h.os, h.tape, h.output, h.size, h.block⟩
theorem Below.boxed {w w' : World} {o : Obj} (h : Below (w.alloc o).heap.size (w.alloc o) w') : w.heap.size < w'.heap.size := by have := h.size; simp at this; omega
end Go.Proofs.Ytoofmofaimdhpaa

/- What is answered. -/
namespace Go.Proofs.Ytoofmofaimdhpaa
structure Ans where
  e : Int
  rate : Int
  burst : Int
  lease : Int
  size : Int
  deriving DecidableEq
def Ans.err (e : Int) : Ans := ⟨e, 0, 0, 0, 0⟩
end Go.Proofs.Ytoofmofaimdhpaa

/- Tenants and their policies, as plain functions: no program in sight. -/
namespace Go.Proofs.Ytoofmofaimdhpaa

structure Tenant where
  id : Int
  rate : Int
  burst : Int
  bucket : Int
  gone : Bool
  deriving DecidableEq

def mayB (rate burst : Int) : Bool := decide (0 ≤ rate ∧ rate ≤ 1000000 ∧ 0 ≤ burst ∧ burst ≤ 1000000)
def broughtI (n lo hi : Int) : Int := min (max n lo) hi
def roomI (burst out : Int) : Int := 1000 * (broughtI burst 0 1000000 - broughtI out 0 (broughtI burst 0 1000000))
def cutI (b burst out : Int) : Int := broughtI b 0 (roomI burst out)

theorem broughtI_range (n lo hi : Int) (h : lo ≤ hi) : lo ≤ broughtI n lo hi ∧ broughtI n lo hi ≤ hi := by
  unfold broughtI; omega
theorem roomI_range (burst out : Int) : 0 ≤ roomI burst out ∧ roomI burst out ≤ 1000000000 := by
  have h := broughtI_range burst 0 1000000 (by omega)
  have h2 := broughtI_range out 0 (broughtI burst 0 1000000) h.1
  unfold roomI; omega
theorem cutI_range (b burst out : Int) : 0 ≤ cutI b burst out ∧ cutI b burst out ≤ roomI burst out := broughtI_range _ _ _ (roomI_range _ _).1

/-- What Check asks of a tenant behind one with the number 'last'. -/
def ask1 (last : Int) (x : Tenant) : Bool := decide (last < x.id ∧ x.id ≤ 16)
def ask2 (x : Tenant) : Bool := mayB x.rate x.burst
def ask3 (x : Tenant) : Bool := decide (0 ≤ x.bucket ∧ x.bucket ≤ 1000000000)
def ask4 (x : Tenant) : Bool := !x.gone || decide (x.rate = 0 ∧ x.burst = 0 ∧ x.bucket = 0)
def tenOk (last : Int) (x : Tenant) : Bool := ask1 last x && ask2 x && ask3 x && ask4 x
def tensOk : Int → List Tenant → Bool
  | _, [] => true
  | last, x :: l => tenOk last x && tensOk x.id l
/-- The number of the last one. -/
def lastId (l : List Tenant) : Int := match l.getLast? with | some x => x.id | none => 0
theorem lastId_take {l : List Tenant} {k : Nat} (h : k < l.length) : lastId (l.take (k + 1)) = l[k].id := by
  unfold lastId; rw [List.take_succ_eq_append_getElem h, List.getLast?_concat]
theorem tensOk_append : ∀ (l m : List Tenant) (a : Int), tensOk a (l ++ m) = (tensOk a l && tensOk (match l.getLast? with | some x => x.id | none => a) m)
  | [], m, a => by simp [tensOk]
  | x :: l, m, a => by
    rw [List.cons_append, tensOk, tensOk, tensOk_append l m, Bool.and_assoc]
    congr 2
    cases l with
    | nil => simp
    | cons y l =>
      rw [List.getLast?_cons_cons]
      cases h : (y :: l).getLast? with
      | none => simp at h
      | some z => rfl
theorem tensOk_snoc (l : List Tenant) (x : Tenant) : tensOk 0 (l ++ [x]) = (tensOk 0 l && tenOk (lastId l) x) := by
  rw [tensOk_append]; simp [tensOk, lastId]
theorem tensOk_take {l : List Tenant} {k : Nat} (h : k < l.length) : tensOk 0 (l.take (k + 1)) = (tensOk 0 (l.take k) && tenOk (lastId (l.take k)) l[k]) := by
  rw [List.take_succ_eq_append_getElem h, tensOk_snoc]
/-- Where a beginning falls the whole falls. -/
theorem tensOk_bad {l : List Tenant} {k : Nat} (h : k < l.length) (hb : tenOk (lastId (l.take k)) l[k] = false) : tensOk 0 l = false := by
  have h1 : tensOk 0 (l.take (k + 1)) = false := by rw [tensOk_take h, hb, Bool.and_false]
  have h2 := tensOk_append (l.take (k + 1)) (l.drop (k + 1)) 0
  rw [List.take_append_drop, h1, Bool.false_and] at h2
  exact h2

/-! Without a tenant, with one. -/
def withoutL (id : Int) (ts : List Tenant) : List Tenant := match ts.findIdx? (fun x => x.id == id) with | some k => ts.take k ++ ts.drop (k + 1) | none => ts
def putAt (x : Tenant) (ts : List Tenant) : Nat := match ts.findIdx? (fun y => decide (x.id < y.id)) with | some k => k | none => ts.length
def withL (x : Tenant) (ts : List Tenant) : List Tenant := (withoutL x.id ts).take (putAt x (withoutL x.id ts)) ++ x :: (withoutL x.id ts).drop (putAt x (withoutL x.id ts))
def zeroT : Tenant := ⟨0, 0, 0, 0, false⟩
def findT (ts : List Tenant) (id : Int) : Tenant × Bool := match ts.findIdx? (fun x => x.id == id) with | some k => (if tensOk 0 ts then (ts[k]?.getD zeroT, true) else (zeroT, false)) | none => (zeroT, false)

/-! What policies are answered. -/
def putS (ts : List Tenant) (id rate burst out : Int) : List Tenant × Ans :=
  if tensOk 0 ts = false then (ts, Ans.err 2)
  else if id < 1 ∨ 16 < id then (ts, Ans.err 161)
  else if mayB rate burst = false then (ts, Ans.err 160)
  else (withL ⟨id, rate, burst, cutI (findT ts id).1.bucket burst (max out 0), false⟩ ts, ⟨0, rate, burst, 0, 0⟩)
def getS (ts : List Tenant) (id : Int) : Ans :=
  if tensOk 0 ts = false then Ans.err 2
  else if (findT ts id).2 = false ∨ (findT ts id).1.gone = true then Ans.err 161
  else ⟨0, (findT ts id).1.rate, (findT ts id).1.burst, 0, 0⟩
def deleteS (ts : List Tenant) (id out : Int) : List Tenant × Ans :=
  if (getS ts id).e ≠ 0 then (ts, Ans.err (getS ts id).e)
  else if 0 < out then (withL ⟨id, 0, 0, 0, true⟩ ts, Ans.err 0)
  else (withoutL id ts, Ans.err 0)

theorem tenOk_ask1 {last : Int} {x : Tenant} (h : ¬(last < x.id ∧ x.id ≤ 16)) : tenOk last x = false := by
  unfold tenOk ask1; rw [decide_eq_false h]; rfl
theorem tenOk_ask2 {last : Int} {x : Tenant} (h : mayB x.rate x.burst = false) : tenOk last x = false := by
  unfold tenOk ask2; rw [h]; simp
theorem tenOk_ask3 {last : Int} {x : Tenant} (h : ¬(0 ≤ x.bucket ∧ x.bucket ≤ 1000000000)) : tenOk last x = false := by
  unfold tenOk ask3; rw [decide_eq_false h]; simp
theorem tenOk_ask4 {last : Int} {x : Tenant} (h : x.gone = true) (h2 : ¬(x.rate = 0 ∧ x.burst = 0 ∧ x.bucket = 0)) : tenOk last x = false := by
  unfold tenOk ask4; rw [decide_eq_false h2, h]; simp
theorem tenOk_mk {last : Int} {x : Tenant} (h1 : last < x.id ∧ x.id ≤ 16) (h2 : mayB x.rate x.burst = true) (h3 : 0 ≤ x.bucket ∧ x.bucket ≤ 1000000000) (h4 : x.gone = false ∨ (x.rate = 0 ∧ x.burst = 0 ∧ x.bucket = 0)) : tenOk last x = true := by
  unfold tenOk ask1 ask2 ask3 ask4
  rw [decide_eq_true h1, h2, decide_eq_true h3]
  rcases h4 with h | h
  · rw [h]; rfl
  · rw [decide_eq_true h]; simp
theorem lastId_ge : ∀ {l : List Tenant} {a : Int}, tensOk a l = true → a ≤ (match l.getLast? with | some x => x.id | none => a)
  | [], a, _ => Int.le_refl _
  | x :: l, a, h => by
    rw [tensOk, Bool.and_eq_true] at h
    have h1 : a < x.id := by
      have := h.1
      unfold tenOk ask1 at this
      simp only [Bool.and_eq_true, decide_eq_true_eq] at this
      exact this.1.1.1.1
    have h2 := lastId_ge h.2
    cases l with
    | nil => simp; omega
    | cons y l =>
      rw [List.getLast?_cons_cons]
      cases hl : (y :: l).getLast? with
      | none => simp at hl
      | some z => rw [hl] at h2; simp only at h2 ⊢; omega
theorem lastId_nonneg {l : List Tenant} (h : tensOk 0 l = true) : 0 ≤ lastId l := lastId_ge h
end Go.Proofs.Ytoofmofaimdhpaa

/- Tenants in memory; finding the first of them that is so. -/
namespace Go.Proofs.Ytoofmofaimdhpaa
open Go.ChangeShapes Go.WideShapes Go.ChangeAt Go.RowKit
set_option maxRecDepth 100000

abbrev Tenant.cells (t : Tenant) : List Value := [.int .i64 t.id, .int .i64 t.rate, .int .i64 t.burst, .int .i64 t.bucket, .bool t.gone]
abbrev Tenant.agg (t : Tenant) : Value := .agg #[.int .i64 t.id, .int .i64 t.rate, .int .i64 t.burst, .int .i64 t.bucket, .bool t.gone]
/-- Tenants lie in a row. -/
abbrev TRow (w : World) (a : Option Addr) (ts : List Tenant) : Prop := Row w a (ts.flatMap Tenant.cells)
theorem TRow.at {w : World} {a : Option Addr} {ts : List Tenant} (h : TRow w a ts) {k : Nat} (hk : k < ts.length) :
    ∃ b o, a = some ⟨b, o, none⟩ ∧ ∀ w', Below w.heap.size w w' →
      w'.cell? ⟨b, o + k * 5, none⟩ = some (.int .i64 ts[k].id) ∧ w'.cell? ⟨b, o + k * 5 + 1, none⟩ = some (.int .i64 ts[k].rate) ∧ w'.cell? ⟨b, o + k * 5 + 2, none⟩ = some (.int .i64 ts[k].burst) ∧
      w'.cell? ⟨b, o + k * 5 + 3, none⟩ = some (.int .i64 ts[k].bucket) ∧ w'.cell? ⟨b, o + k * 5 + 4, none⟩ = some (.bool ts[k].gone) := by
  have hat := fun r (hr : r < 5) => flatMap_at (cells := Tenant.cells) (size := 5) (fun _ => rfl) (xs := ts) (i := k) (r := r) hr
  have hx : ts[k]? = some ts[k] := List.getElem?_eq_getElem hk
  simp only [hx, Option.bind_some] at hat
  obtain ⟨b, o, rfl, h0⟩ := h.getBelow (hat 0 (by omega))
  obtain ⟨b1, o1, e1, h1⟩ := h.getBelow (hat 1 (by omega))
  obtain ⟨b2, o2, e2, h2⟩ := h.getBelow (hat 2 (by omega))
  obtain ⟨b3, o3, e3, h3⟩ := h.getBelow (hat 3 (by omega))
  obtain ⟨b4, o4, e4, h4⟩ := h.getBelow (hat 4 (by omega))
  simp only [Option.some.injEq, Addr.mk.injEq, and_true] at e1 e2 e3 e4
  obtain ⟨rfl, rfl⟩ := e1
  obtain ⟨rfl, rfl⟩ := e2
  obtain ⟨rfl, rfl⟩ := e3
  obtain ⟨rfl, rfl⟩ := e4
  exact ⟨b, o, rfl, fun w' hb => ⟨h0 w' hb, h1 w' hb, h2 w' hb, h3 w' hb, h4 w' hb⟩⟩

/-- The place of the first that is so; -1: none. -/
def idx (p : Tenant → Bool) (ts : List Tenant) : Int := match ts.findIdx? p with | some k => (k : Int) | none => -1

theorem idx_some {p : Tenant → Bool} {ts : List Tenant} {k : Nat} (hk : k < ts.length) (hno : ∀ j (h : j < ts.length), j < k → p ts[j] = false) (hp : p ts[k] = true) : idx p ts = k := by
  have : ts.findIdx? p = some k := by
    rw [List.findIdx?_eq_some_iff_getElem]
    exact ⟨hk, hp, fun j hj => by rw [hno j (by omega) hj]; simp⟩
  unfold idx; rw [this]
theorem idx_none {p : Tenant → Bool} {ts : List Tenant} (hno : ∀ j (h : j < ts.length), p ts[j] = false) : idx p ts = -1 := by
  have : ts.findIdx? p = none := by
    rw [List.findIdx?_eq_none_iff]
    intro x hx
    obtain ⟨j, hj, rfl⟩ := List.mem_iff_getElem.1 hx
    exact hno j hj
  unfold idx; rw [this]
theorem indexFunc_any (ts : List Tenant) (a : Option Addr) (n c : Nat) (fid : FuncId) (cap : Array Value) (p : Tenant → Bool) (w : World) (hn : ts.length = n) (hl : ts.length ≤ maxLen) (hr : TRow w a ts)
    (hcf : ∀ (args : Array Value) (w : World), (callFunc fid args).run Try.prog w = .ok (.enter fid args) w)
    (hf : ∀ t ∈ ts, ∀ w', Below w.heap.size w w' → Calls Try.prog fid (#[t.agg] ++ cap) w' fun e w'' => e = .returned (.bool (p t)) ∧ Below w'.heap.size w' w'') :
    Calls Try.prog 83 #[.slice a n c, .func (.func fid) #[] cap] w fun e w' => e = .returned (.int .i64 (idx p ts)) ∧ Below w.heap.size w w' := by
  subst hn
  have hl2 := lt_maxLen hl
  go_enter Try.func83, Try.ntmps83
  go_wp2
  go_loopw [8] (fun i wr => ∃ k : Nat, k ≤ ts.length ∧ i = .int .i64 k ∧ (∀ j (h : j < ts.length), j < k → p ts[j] = false) ∧ Below w.heap.size w wr) (fun i _ => ts.length - (intOf i).toNat)
  case atStart => exact ⟨0, by omega, rfl, by omega, Below.refl _ _⟩
  case round =>
    obtain ⟨k, hk, rfl, hno, hb⟩ := hrel
    have HNO := Lib.hid hno
    clear hno
    by_cases hlt : k < ts.length
    · obtain ⟨b, o, rfl, hcs⟩ := hr.at hlt
      obtain ⟨h0, h1, h2, h3, h4⟩ := hcs _ hb
      have HF := Lib.hid (hf ts[k] (List.getElem_mem hlt))
      clear hcs hf
      by_cases hp : p ts[k] = true
      · go_wp2_with (refine (HF.out wr hb).mono ?_; rw [hp]; rintro e w2 ⟨rfl, hb2⟩)
        go_returns
        exact ⟨ret_int (idx_some hlt HNO.out hp).symm, hb.trans (hb2.mono hb.size)⟩
      · rw [Bool.not_eq_true] at hp
        go_wp2_with (refine (HF.out wr hb).mono ?_; rw [hp]; rintro e w2 ⟨rfl, hb2⟩)
        go_roundw
        case rel => exact ⟨k + 1, by omega, by go_num, fun j h hj => by rcases Nat.lt_succ_iff_lt_or_eq.1 hj with h1 | rfl; exact HNO.out j h h1; exact hp, hb.trans (hb2.mono hb.size)⟩
        case measure => simp [intOf]; omega
    · go_wp2
      go_returns
      exact ⟨ret_int (idx_none fun j h => HNO.out j h (by omega)).symm, hb⟩
end Go.Proofs.Ytoofmofaimdhpaa

namespace Go.Proofs.Ytoofmofaimdhpaa
open Go.ChangeShapes Go.WideShapes Go.ChangeAt Go.RowKit
set_option maxRecDepth 100000

theorem may_any (r b : Int) (w : World) : Calls Try.prog 78 #[.int .i64 r, .int .i64 b] w fun e w' => e = .returned (.bool (mayB r b)) ∧ w = w' := by
  go_each [r < 0, 1000000 < r, b < 0, 1000000 < b] => (
    go_enter Try.func78, Try.ntmps78
    go_wp2
    go_returns
    refine ⟨ret_bool ?_, rfl⟩
    unfold mayB
    first | (refine (decide_eq_true ?_).symm; omega) | (refine (decide_eq_false ?_).symm; omega) | (rw [Bool.eq_iff_iff]; simp only [decide_eq_true_iff, Bool.and_eq_true]; omega))
theorem refmay_any (r b : Int) (w : World) : Calls Try.prog 75 #[.int .i64 r, .int .i64 b] w fun e w' => e = .returned (.bool (mayB r b)) ∧ w = w' := by
  go_each [r < 0, 1000000 < r, b < 0, 1000000 < b] => (
    go_enter Try.func75, Try.ntmps75
    go_wp2
    go_returns
    refine ⟨ret_bool ?_, rfl⟩
    unfold mayB
    first | (refine (decide_eq_true ?_).symm; omega) | (refine (decide_eq_false ?_).symm; omega) | (rw [Bool.eq_iff_iff]; simp only [decide_eq_true_iff, Bool.and_eq_true]; omega))
theorem brought_any (n lo hi : Int) (w : World) : Calls Try.prog 86 #[.int .i64 n, .int .i64 lo, .int .i64 hi] w fun e w' => e = .returned (.int .i64 (broughtI n lo hi)) ∧ w = w' := by
  go_each [n < lo, hi < n, hi < lo] => (
    go_enter Try.func86, Try.ntmps86
    go_wp2
    go_returns
    exact ⟨ret_int (by unfold broughtI; omega), rfl⟩)
theorem room_any (burst out : Int) (w : World) : Calls Try.prog 102 #[.int .i64 burst, .int .i64 out] w fun e w' => e = .returned (.int .i64 (roomI burst out)) ∧ w = w' := by
  have h := broughtI_range burst 0 1000000 (by omega)
  have h2 := broughtI_range out 0 (broughtI burst 0 1000000) h.1
  obtain ⟨h3, h4⟩ := h
  obtain ⟨h5, h6⟩ := h2
  go_enter Try.func102, Try.ntmps102
  go_wp2_with (go_at_call 86; ((with_reducible refine (brought_any _ _ _ _).mono ?_); rintro e w' ⟨rfl, rfl⟩))
  go_returns
  exact ⟨rfl, rfl⟩
theorem cut_any (b burst out : Int) (w : World) : Calls Try.prog 88 #[.int .i64 b, .int .i64 burst, .int .i64 out] w fun e w' => e = .returned (.int .i64 (cutI b burst out)) ∧ w = w' := by
  go_enter Try.func88, Try.ntmps88
  go_wp2_with (first
    | (go_at_call 86; ((with_reducible refine (brought_any _ _ _ _).mono ?_); rintro e w' ⟨rfl, rfl⟩))
    | (go_at_call 102; ((with_reducible refine (room_any _ _ _).mono ?_); rintro e w' ⟨rfl, rfl⟩)))
  go_returns
  exact ⟨rfl, rfl⟩
theorem refroom_any (burst out : Int) (w : World) : Calls Try.prog 89 #[.int .i64 burst, .int .i64 out] w fun e w' => e = .returned (.int .i64 (roomI burst out)) ∧ w = w' := by
  go_each [burst < 0, 1000000 < burst, out < 0, burst < out, 1000000 < out] => (
    go_enter Try.func89, Try.ntmps89
    go_wp2
    all_goals
      go_returns
      exact ⟨ret_int (by unfold roomI broughtI; omega), rfl⟩)
theorem refcut_any (b burst out : Int) (w : World) : Calls Try.prog 91 #[.int .i64 b, .int .i64 burst, .int .i64 out] w fun e w' => e = .returned (.int .i64 (cutI b burst out)) ∧ w = w' := by
  obtain ⟨h0, _⟩ := roomI_range burst out
  go_each [b < 0, roomI burst out < b] => (
    go_enter Try.func91, Try.ntmps91
    go_wp2_with (go_at_call 89; ((with_reducible refine (refroom_any _ _ _).mono ?_); rintro e w' ⟨rfl, rfl⟩))
    go_returns
    exact ⟨ret_int (by unfold cutI broughtI; omega), rfl⟩)
end Go.Proofs.Ytoofmofaimdhpaa

/- How things of a type lie in memory, whatever the type: rows of them that are read, rows of the call's own that are written. -/
namespace Go.Proofs.Ytoofmofaimdhpaa
open Go.ChangeShapes Go.WideShapes Go.ChangeAt Go.RowKit
set_option maxRecDepth 100000

structure Lay (P : Program) (e : TypeId) (α : Type) where
  cells : α → List Value
  val : α → Value
  size : Nat
  bytes : Nat
  len : ∀ x, (cells x).length = size
  pos : 0 < size
  bpos : 0 < bytes
  one : ∀ x, ∀ u ∈ cells x, u.oneCell' = true
  info : (P.info? e).map (fun i => (i.zero.map fun z => (z.cells.size, z.cells.all (·.oneCell')), i.size, i.bytes)) = some (some (size, true), size, bytes)
  load : ∀ (w : World) b o x, w.rangeAt b o (cells x) → (Instr.loadAt e (.pointer (some ⟨b, o, none⟩))).run P w = .ok (val x) w
  store : ∀ (w : World) b o x, w.there b o size → (Instr.storeAt e (.pointer (some ⟨b, o, none⟩)) (val x)).run P w = .ok () (w.setCells b o (cells x))

theorem size_of_info {P : Program} {e : TypeId} {size bytes : Nat} (h : (P.info? e).map (fun i => (i.zero.map fun z => (z.cells.size, z.cells.all (·.oneCell')), i.size, i.bytes)) = some (some (size, true), size, bytes)) : (P.info? e).map (·.size) = some size := by
  cases hi : P.info? e with
  | none => rw [hi] at h; cases h
  | some i => rw [hi] at h; simp at h; simp [h.2.1]

/-- A struct's lay. -/
def Lay.struct {P : Program} {e : TypeId} {α : Type} (cells : α → List Value) (size bytes : Nat) (len : ∀ x, (cells x).length = size) (pos : 0 < size) (bpos : 0 < bytes) (one : ∀ x, ∀ u ∈ cells x, u.oneCell' = true)
    (info : (P.info? e).map (fun i => (i.zero.map fun z => (z.cells.size, z.cells.all (·.oneCell')), i.size, i.bytes)) = some (some (size, true), size, bytes)) (d : TypeDesc) (hu : P.underlying e = some d) (hd : d.isRow = true) : Lay P e α where
  cells := cells
  val x := .agg (cells x).toArray
  size := size
  bytes := bytes
  len := len
  pos := pos
  bpos := bpos
  one := one
  info := info
  load w b o x h := run_loadAt_mid w b o e (cells x) d h hu hd (by rw [len]; exact size_of_info info)
  store w b o x h := by
    have := run_storeAt_mid (P := P) w b o e (cells x).toArray (by simpa [len] using h) (by simpa [len] using size_of_info info) (all_oneCell_toArray (one x))
    simpa using this

section
variable {P : Program} {e : TypeId} {α : Type} (L : Lay P e α)

/-- Things lie in a row. -/
abbrev LRow (w : World) (a : Option Addr) (xs : List α) : Prop := Row w a (xs.flatMap L.cells)
theorem Lay.length (xs : List α) : (xs.flatMap L.cells).length = xs.length * L.size := flatMap_len L.len xs
theorem Lay.ones (xs : List α) : ∀ u ∈ xs.flatMap L.cells, u.oneCell' = true := by
  intro u hu
  obtain ⟨x, _, hx⟩ := List.mem_flatMap.1 hu
  exact L.one x u hx
theorem Lay.at (xs : List α) {k r : Nat} (hr : r < L.size) : (xs.flatMap L.cells)[k * L.size + r]? = (xs[k]?).bind fun x => (L.cells x)[r]? := flatMap_at L.len hr
theorem Lay.parts : ∃ i z, P.info? e = some i ∧ i.zero = some z ∧ i.size = L.size ∧ i.bytes = L.bytes ∧ z.cells.size = L.size ∧ z.cells.all (·.oneCell') = true := by
  have h := L.info
  cases hi : P.info? e with
  | none => rw [hi] at h; cases h
  | some i =>
    rw [hi] at h
    cases hz : i.zero with
    | none => simp [hz] at h
    | some z =>
      simp only [hz, Option.map_some, Option.some.injEq, Prod.mk.injEq] at h
      exact ⟨i, z, rfl, hz, h.2.1, h.2.2, h.1.1, h.1.2⟩
theorem Lay.elem {t : TypeId} (ht : P.underlying t = some (.slice e)) : Elem P t e L.size L.bytes where
  under := ht
  info := let ⟨i, z, h1, h2, h3, h4, h5, _⟩ := L.parts; ⟨i, z, h1, h2, h3, h4, h5⟩
  pos := L.pos
  bpos := L.bpos
variable {L}
theorem LRow.range {w : World} {a : Option Addr} {xs : List α} (h : LRow L w a xs) {k : Nat} (hk : k < xs.length) :
    ∃ b o, a = some ⟨b, o, none⟩ ∧ ∀ w', Below w.heap.size w w' → w'.rangeAt b (o + k * L.size) (L.cells xs[k]) := by
  have h0 : 0 < (xs.flatMap L.cells).length := by rw [L.length]; exact Nat.mul_pos (by omega) L.pos
  obtain ⟨b, o, rfl, hc⟩ := Row.at h h0
  have hlt := Row.lt (w := w) (b := b) (o := o) (.inr ⟨b, o, rfl, hc⟩) (List.length_pos_iff.1 h0)
  refine ⟨b, o, rfl, fun w' hb j v hv => ?_⟩
  have hj : j < L.size := by have := (List.getElem?_eq_some_iff.1 hv).1; rw [L.len] at this; exact this
  have h1 := L.at xs (k := k) hj
  rw [List.getElem?_eq_getElem hk, Option.bind_some, hv] at h1
  obtain ⟨h2, h3⟩ := List.getElem?_eq_some_iff.1 h1
  rw [hb.cell (p := ⟨b, o + k * L.size + j, none⟩) hlt, Nat.add_assoc, hc _ h2, h3]
theorem LRow.below {w w' : World} {a : Option Addr} {xs : List α} (h : LRow L w a xs) (hb : Below w.heap.size w w') : LRow L w' a xs := Row.below h hb
theorem LRow.take {w : World} {a : Option Addr} {xs : List α} (h : LRow L w a xs) (k : Nat) : LRow L w a (xs.take k) := by
  show Row _ _ _
  rw [← flatMap_take L.len]; exact Row.take h _
theorem LRow.drop {w : World} {b o : Nat} {xs : List α} (h : LRow L w (some ⟨b, o, none⟩) xs) (k : Nat) : LRow L w (some ⟨b, o + k * L.size, none⟩) (xs.drop k) := by
  show Row _ _ _
  rw [← flatMap_drop L.len]; exact Row.drop h _

theorem wpList_load_lay {ops : Array Oper} {rest : List Oper} {op : Oper} {a : Act} {w : World} {Q : Exit → Act → World → Prop} (L : Lay P e α) (hgd : op.guard = none) (x : Operand) (ho : op.op = .load e x)
    (b o : Nat) (hx : a.eval x = .pointer (some ⟨b, o, none⟩)) (y : α) (hc : w.rangeAt b o (L.cells y)) (h : wpList P ops Q rest (a.put op.dst (L.val y)) w) : wpList P ops Q (op :: rest) a w :=
  wpList_plain hgd fun K hK => by
    unfold Oper.wp execOp
    simp only [ho, hx, Sem.run_bind, Sem.run_pure, Result.andThen_ok, L.load w b o y hc]
    exact hK _ _ h
theorem wpList_store_lay {ops : Array Oper} {rest : List Oper} {op : Oper} {a : Act} {w : World} {Q : Exit → Act → World → Prop} (L : Lay P e α) (hgd : op.guard = none) (x y : Operand) (ho : op.op = .store e x y)
    (b o : Nat) (z : α) (hx : a.eval x = .pointer (some ⟨b, o, none⟩)) (hy : a.eval y = L.val z) (ht : w.there b o L.size) (h : wpList P ops Q rest (a.put op.dst undef) (w.setCells b o (L.cells z))) : wpList P ops Q (op :: rest) a w :=
  wpList_plain hgd fun K hK => by
    unfold Oper.wp execOp
    simp only [ho, hx, hy, Sem.run_bind, Sem.run_pure, Result.andThen_ok, L.store w b o z ht]
    exact hK _ _ h

/-- clear: whatever is there is zero then. -/
theorem wpList_clear_lay {ops : Array Oper} {rest : List Oper} {op : Oper} {a : Act} {w : World} {Q : Exit → Act → World → Prop} (L : Lay P e α) {t : TypeId} (ht : P.underlying t = some (.slice e)) (hgd : op.guard = none) (s : Operand)
    (ho : op.op = .call { callee := .builtin .clear, args := #[s], argTypes := #[t] }) (b o n c : Nat) (hs : a.eval s = .slice (some ⟨b, o, none⟩) n c) (hth : w.there b o (n * L.size))
    (h : ∀ zs : List Value, zs.length = n * L.size → wpList P ops Q rest (a.put op.dst (.tuple #[])) (w.setCells b o zs)) : wpList P ops Q (op :: rest) a w :=
  wpList_plain hgd fun K hK => by
    obtain ⟨i, z, h1, h2, h3, _, h5, h6⟩ := L.parts
    have hz : (zeroValue e).run P w = .ok z w := by simp [zeroValue, typeInfo, h1, h2]
    by_cases hn : n = 0
    · subst hn
      have hrun : (Builtin.clear_ #[t] op.type #[.slice (some ⟨b, o, none⟩) 0 c]).run P w = .ok (.tuple #[]) w := by
        simp [Builtin.clear_, run_underlying ht]
      unfold Oper.wp execOp
      simp only [ho, resolve, invoke, builtin, Sem.run_bind, Sem.run_pure, Result.andThen_ok, List.map_toArray, List.map_cons, List.map_nil, hs, hrun]
      exact hK _ _ (h [] (by simp))
    · have hst := run_storeCells_cells (P := P) b o (Builtin.zeroCells z.cells n).toList 0 w (fun j hj => by
        have := (hth j (by simp [Builtin.zeroCells, h5] at hj; exact hj)).1; simpa using this) (fun j hj => by
        have := (hth j (by simp [Builtin.zeroCells, h5] at hj; exact hj)).2; simpa using this) (fun v hv => by
        simp only [Builtin.zeroCells, Array.toList_map, List.mem_map, Array.mem_toList_iff] at hv
        obtain ⟨i, _, rfl⟩ := hv
        have hp := L.pos
        have hlt : i % z.cells.size < z.cells.size := Nat.mod_lt _ (by omega)
        rw [getElem!_pos z.cells _ hlt]
        exact (Array.all_eq_true_iff_forall_mem.1 h6) _ (Array.getElem_mem hlt))
      rw [Nat.add_zero] at hst
      have hrun : (Builtin.clear_ #[t] op.type #[.slice (some ⟨b, o, none⟩) n c]).run P w = .ok (.tuple #[]) (w.setCells b o (Builtin.zeroCells z.cells n).toList) := by
        cases n with
        | zero => exact absurd rfl hn
        | succ n => simp only [Builtin.clear_]; simp [run_underlying ht, hz, hst]
      unfold Oper.wp execOp
      simp only [ho, resolve, invoke, builtin, Sem.run_bind, Sem.run_pure, Result.andThen_ok, List.map_toArray, List.map_cons, List.map_nil, hs, hrun]
      exact hK _ _ (h _ (by simp [Builtin.zeroCells, h5]))

theorem there_new (w : World) (cs : Array Value) (t : TypeId) : (w.alloc (.cells cs t)).there w.heap.size 0 cs.size := fun j hj => by
  have h := heap_alloc_new w (.cells cs t)
  refine ⟨?_, ?_⟩
  · simp only [World.cell?, h, Option.isSome_none, Bool.false_eq_true, if_false]
    rw [Array.getElem?_eq_getElem (by omega)]; rfl
  · simp only [World.frozen?, h]
    simp
theorem range_put {w : World} {b o : Nat} (x : α) (h : w.there b o L.size) : (w.setCells b o (L.cells x)).rangeAt b o (L.cells x) := World.rangeAt_setCells_same w b o _ (by rw [L.len]; exact h)
theorem rangeAt_below {B : Nat} {w w' : World} {b o : Nat} {cs : List Value} (h : w.rangeAt b o cs) (hb : Below B w w') (hB : b < B) : w'.rangeAt b o cs := fun j v hv => (hb.cell (p := ⟨b, o + j, none⟩) hB).trans (h j v hv)
theorem there_below {B : Nat} {w w' : World} {b o n : Nat} (h : w.there b o n) (hb : Below B w w') (hB : b < B) : w'.there b o n := fun j hj => by
  rw [hb.cell (p := ⟨b, o + j, none⟩) hB, hb.frozen (p := ⟨b, o + j, none⟩) hB]; exact h j hj

/-! ### Rows of the call's own -/
/-- The things lie in block g from o on, may be written, and the block is one of the call's own, from B on. -/
def Mine (L : Lay P e α) (w : World) (B g o : Nat) (xs : List α) : Prop := B ≤ g ∧ w.rangeAt g o (xs.flatMap L.cells) ∧ w.there g o (xs.length * L.size)
theorem Mine.row {w : World} {B g o : Nat} {xs : List α} (h : Mine L w B g o xs) : LRow L w (some ⟨g, o, none⟩) xs :=
  .inr ⟨g, o, rfl, fun i hi => h.2.1 i _ (List.getElem?_eq_getElem hi)⟩
theorem Mine.base {w : World} {B g o : Nat} {xs : List α} (h : Mine L w B g o xs) : B ≤ g := h.1
theorem Below.setCells {B : Nat} {a : World} {g : Nat} (hg : B ≤ g) : ∀ (vs : List Value) (o : Nat) {w : World}, Below B a w → Below B a (w.setCells g o vs)
  | [], _, _, h => h
  | v :: vs, o, w, h => by
    rw [World.setCells]
    exact Below.setCells hg vs (o + 1) (h.setCell (p := ⟨g, o, none⟩) hg v)
theorem Mine.there {w : World} {B g o : Nat} {xs : List α} (h : Mine L w B g o xs) {k : Nat} (hk : k < xs.length) : w.there g (o + k * L.size) L.size := fun j hj => by
  have h1 : k * L.size + j < xs.length * L.size := by
    have := Nat.mul_le_mul_right L.size (Nat.succ_le_of_lt hk)
    rw [Nat.succ_mul] at this; omega
  have := h.2.2 (k * L.size + j) h1
  rw [Nat.add_assoc]; exact this
theorem Mine.range {w : World} {B g o : Nat} {xs : List α} (h : Mine L w B g o xs) {k : Nat} (hk : k < xs.length) : w.rangeAt g (o + k * L.size) (L.cells xs[k]) := fun j v hv => by
  have hj : j < L.size := by have := (List.getElem?_eq_some_iff.1 hv).1; rw [L.len] at this; exact this
  have h1 := L.at xs (k := k) hj
  rw [List.getElem?_eq_getElem hk, Option.bind_some, hv] at h1
  have := h.2.1 _ _ h1
  rw [Nat.add_assoc]; exact this
theorem Mine.set {w : World} {B g o : Nat} {xs : List α} (h : Mine L w B g o xs) {k : Nat} (hk : k < xs.length) (x : α) : Mine L (w.setCells g (o + k * L.size) (L.cells x)) B g o (xs.set k x) := by
  refine ⟨h.1, fun j v hv => ?_, by rw [List.length_set]; exact World.there_setCells h.2.2 _ _ _⟩
  have hj : j < (xs.set k x).length * L.size := by have := (List.getElem?_eq_some_iff.1 hv).1; rw [L.length] at this; exact this
  have hp := L.pos
  have hr : j % L.size < L.size := Nat.mod_lt _ hp
  have hjj : j / L.size * L.size + j % L.size = j := by rw [Nat.mul_comm]; exact Nat.div_add_mod j L.size
  have h1 := L.at (xs.set k x) (k := j / L.size) hr
  rw [hjj, hv] at h1
  by_cases hk2 : j / L.size = k
  · rw [hk2, List.getElem?_set_self hk, Option.bind_some] at h1
    have hlen : j % L.size < (L.cells x).length := by rw [L.len]; exact hr
    have h2 := World.cell?_setCells_in g (L.cells x) (o + k * L.size) w (fun i hi => (h.there hk i (by rw [L.len] at hi; exact hi)).1) _ hlen
    have h3 : o + j = o + k * L.size + j % L.size := by rw [← hk2]; omega
    rw [h3, h2]
    rw [List.getElem?_eq_getElem hlen] at h1
    exact h1.symm
  · rw [List.getElem?_set_ne (fun e => hk2 e.symm)] at h1
    have h4 := L.at xs (k := j / L.size) hr
    rw [hjj, ← h1] at h4
    have h5 := h.2.1 j v h4
    rw [World.cell?_setCells_out g (L.cells x) (o + k * L.size) w ⟨g, o + j, none⟩ (fun _ _ => ?_)]
    · exact h5
    · rw [L.len]
      rcases Nat.lt_or_gt_of_ne hk2 with h6 | h6
      · left
        have := Nat.mul_le_mul_right L.size (Nat.succ_le_of_lt h6)
        rw [Nat.succ_mul] at this
        show o + j < o + k * L.size
        omega
      · right
        have := Nat.mul_le_mul_right L.size (Nat.succ_le_of_lt h6)
        rw [Nat.succ_mul] at this
        show o + k * L.size + L.size ≤ o + j
        omega
theorem Mine.take {w : World} {B g o : Nat} {xs : List α} (h : Mine L w B g o xs) (k : Nat) : Mine L w B g o (xs.take k) := by
  refine ⟨h.1, fun j v hv => ?_, fun j hj => h.2.2 j (Nat.lt_of_lt_of_le hj (Nat.mul_le_mul_right _ (by simp; omega)))⟩
  rw [← flatMap_take L.len, List.getElem?_take] at hv
  split at hv
  · exact h.2.1 j v hv
  · cases hv
theorem Mine.below {w w' : World} {B g o B' : Nat} {xs : List α} (h : Mine L w B g o xs) (hb : Below B' w w') (hg : g < B') : Mine L w' B g o xs :=
  ⟨h.1, fun j v hv => (hb.cell (p := ⟨g, o + j, none⟩) hg).trans (h.2.1 j v hv), fun j hj => by
    rw [hb.cell (p := ⟨g, o + j, none⟩) hg, hb.frozen (p := ⟨g, o + j, none⟩) hg]; exact h.2.2 j hj⟩
theorem Mine.lt {w : World} {B g o : Nat} {xs : List α} (h : Mine L w B g o xs) (h0 : xs ≠ []) : g < w.heap.size :=
  Row.lt h.row (by intro h1; have := congrArg List.length h1; rw [L.length, List.length_nil, Nat.mul_eq_zero] at this; have hp := L.pos; rcases this with h | h; exact h0 (List.eq_nil_of_length_eq_zero h); omega)
theorem Mine.of_own {w : World} {B : Nat} {g n c : Nat} {xs : List α} (h : w.ownsRow B e L.size (.slice (some ⟨g, 0, none⟩) n c) n (xs.flatMap L.cells)) : Mine L w B g 0 xs := by
  obtain ⟨hl, h⟩ := h
  rcases h with ⟨hv, _⟩ | ⟨g', cap, cur, hv, hB, hg, hnc, hm, hs, ht⟩
  · cases hv
  · simp only [Value.slice.injEq, Option.some.injEq, Addr.mk.injEq, and_true] at hv
    obtain ⟨rfl, _, rfl⟩ := hv
    have hxs : xs.length * L.size = n * L.size := by rw [← L.length]; exact hl
    have h2 : n * L.size ≤ cur.size := by rw [hs]; exact Nat.mul_le_mul_right _ hnc
    have hcell : ∀ j, w.cell? ⟨g, 0 + j, none⟩ = cur[j]? := fun j => by simp [World.cell?, hg]
    refine ⟨hB, fun j v hv => ?_, fun j hj => ?_⟩
    · rw [hcell]
      rw [← ht, List.getElem?_take] at hv
      split at hv
      · simpa using hv
      · cases hv
    · rw [hcell, Array.getElem?_eq_getElem (by omega)]
      exact ⟨rfl, by simp [World.frozen?, hg]⟩
theorem setCells_size (b : Nat) : ∀ (vs : List Value) (o : Nat) (w : World), (w.setCells b o vs).heap.size = w.heap.size
  | [], _, _ => rfl
  | v :: vs, o, w => by rw [World.setCells, setCells_size b vs]; simp
/-- A thing put into a new variable of its own. -/
theorem wpList_store_box {ops : Array Oper} {rest : List Oper} {op : Oper} {a : Act} {w : World} {cs : Array Value} {t : TypeId} {Q : Exit → Act → World → Prop} (L : Lay P e α) (hgd : op.guard = none) (x y : Operand) (ho : op.op = .store e x y)
    (z : α) (hx : a.eval x = .pointer (some ⟨w.heap.size, 0, none⟩)) (hy : a.eval y = L.val z) (ht : cs.size = L.size)
    (h : ∀ w', w'.rangeAt w.heap.size 0 (L.cells z) → w'.there w.heap.size 0 L.size → Below w.heap.size w w' → w'.heap.size = w.heap.size + 1 → wpList P ops Q rest (a.put op.dst undef) w') : wpList P ops Q (op :: rest) a (w.alloc (.cells cs t)) := by
  have hth : (w.alloc (.cells cs t)).there w.heap.size 0 L.size := by rw [← ht]; exact there_new w cs t
  refine wpList_store_lay L hgd x y ho w.heap.size 0 z hx hy hth (h _ (range_put z hth) (World.there_setCells hth _ _ _) (Below.setCells (Nat.le_refl _) _ _ ((Below.refl _ _).alloc (Nat.le_refl _) _)) (by rw [setCells_size]; simp))
/-- A thing put into its place in a row of the call's own. -/
theorem wpList_store_mine {ops : Array Oper} {rest : List Oper} {op : Oper} {a : Act} {w : World} {Q : Exit → Act → World → Prop} (L : Lay P e α) (hgd : op.guard = none) (x y : Operand) (ho : op.op = .store e x y)
    {B g o : Nat} {xs : List α} (hm : Mine L w B g o xs) (k : Nat) (hk : k < xs.length) (z : α) (hx : a.eval x = .pointer (some ⟨g, o + k * L.size, none⟩)) (hy : a.eval y = L.val z)
    (h : ∀ w', Mine L w' B g o (xs.set k z) → (∀ B', B' ≤ g → Below B' w w') → w'.heap.size = w.heap.size → wpList P ops Q rest (a.put op.dst undef) w') : wpList P ops Q (op :: rest) a w :=
  wpList_store_lay L hgd x y ho g (o + k * L.size) z hx hy (hm.there hk) (h _ (hm.set hk z) (fun _ hB => Below.setCells hB _ _ (Below.refl _ _)) (setCells_size _ _ _ _))
/-- What lies behind a row's first things is struck. -/
theorem wpList_clear_mine {ops : Array Oper} {rest : List Oper} {op : Oper} {a : Act} {w : World} {Q : Exit → Act → World → Prop} (L : Lay P e α) {t : TypeId} (ht : P.underlying t = some (.slice e)) (hgd : op.guard = none) (s : Operand)
    (ho : op.op = .call { callee := .builtin .clear, args := #[s], argTypes := #[t] }) {B g o : Nat} {xs : List α} (hm : Mine L w B g o xs) (k : Nat) (hk : k ≤ xs.length) (n c : Nat) (hn : n + k = xs.length) (hs : a.eval s = .slice (some ⟨g, o + k * L.size, none⟩) n c)
    (h : ∀ w', Mine L w' B g o (xs.take k) → (∀ B', B' ≤ g → Below B' w w') → w'.heap.size = w.heap.size → wpList P ops Q rest (a.put op.dst (.tuple #[])) w') : wpList P ops Q (op :: rest) a w := by
  have hth : w.there g (o + k * L.size) (n * L.size) := fun j hj => by
    have := hm.2.2 (k * L.size + j) (by rw [← hn, Nat.add_mul]; omega)
    rw [Nat.add_assoc]; exact this
  refine wpList_clear_lay L ht hgd s ho g (o + k * L.size) n c hs hth fun zs _ => h _ ?_ (fun _ hB => Below.setCells hB _ _ (Below.refl _ _)) (setCells_size _ _ _ _)
  have h1 := hm.take k
  refine ⟨h1.1, World.rangeAt_setCells_apart h1.2.1 _ _ _ (.inr (.inl ?_)), World.there_setCells h1.2.2 _ _ _⟩
  rw [L.length, List.length_take, Nat.min_eq_left hk]; omega
theorem own_head {w : World} {B : Nat} {t : TypeId} {size : Nat} {a : Option Addr} {n c : Nat} {xs : List Value} (h : w.ownsRow B t size (.slice a n c) n xs) (h0 : xs ≠ []) : ∃ g, a = some ⟨g, 0, none⟩ ∧ B ≤ g ∧ c ≤ maxLen := by
  rcases h.2 with ⟨_, h1⟩ | ⟨g, cap, cur, hv, hB, hg, hnc, hm, hs, ht⟩
  · exact absurd (List.eq_nil_of_length_eq_zero (by rw [h.1, h1, Nat.zero_mul])) h0
  · simp only [Value.slice.injEq] at hv
    obtain ⟨rfl, _, rfl⟩ := hv
    exact ⟨g, rfl, hB, hm⟩
theorem Mine.mono {w : World} {B B' g o : Nat} {xs : List α} (h : Mine L w B g o xs) (hB : B' ≤ B) : Mine L w B' g o xs := ⟨Nat.le_trans hB h.1, h.2⟩
end
end Go.Proofs.Ytoofmofaimdhpaa

namespace Go.Proofs.Ytoofmofaimdhpaa
open Go.ChangeShapes Go.WideShapes Go.ChangeAt Go.RowKit
set_option maxRecDepth 100000

abbrev Ans.agg (a : Ans) : Value := .agg #[.int .i64 a.e, .int .i64 a.rate, .int .i64 a.burst, .int .i64 a.lease, .int .i64 a.size]
abbrev Ans.cells (t : Ans) : List Value := [.int .i64 t.e, .int .i64 t.rate, .int .i64 t.burst, .int .i64 t.lease, .int .i64 t.size]
def layAns : Lay Try.prog 32 Ans := Lay.struct Ans.cells 5 40 (fun _ => rfl) (by decide) (by decide) (fun x u hu => by simp at hu; rcases hu with h | h | h | h | h <;> subst h <;> rfl) (by kernel_rfl) _ Try.underlying32 rfl
theorem cellsAns {w : World} {b o : Nat} {t : Ans} (h : w.rangeAt b o t.cells) : w.cell? ⟨b, o, none⟩ = some (.int .i64 t.e) ∧ w.cell? ⟨b, o + 1, none⟩ = some (.int .i64 t.rate) ∧ w.cell? ⟨b, o + 2, none⟩ = some (.int .i64 t.burst) ∧ w.cell? ⟨b, o + 3, none⟩ = some (.int .i64 t.lease) ∧ w.cell? ⟨b, o + 4, none⟩ = some (.int .i64 t.size) :=
  ⟨h 0 _ rfl, h 1 _ rfl, h 2 _ rfl, h 3 _ rfl, h 4 _ rfl⟩
theorem aeq_run (t u : Ans) (w : World) : (Op.equalIn 10000 32 t.agg u.agg).run Try.prog w = .ok (decide (t = u)) w := by
  obtain ⟨t0, t1, t2, t3, t4⟩ := t
  obtain ⟨u0, u1, u2, u3, u4⟩ := u
  have hp : Try.prog.stoodInHeld 32 = false := by kernel_rfl
  have hi := fun (d : Nat) (a b : Int) (w : World) => run_equalIn_int (P := Try.prog) w d 3 .i64 .i64 a b Try.underlying3
  have he := fun (d : Nat) (a b : Int) (w : World) => run_equalIn_int (P := Try.prog) w d 30 .i64 .i64 a b Try.underlying30
  simp [go_sem, hp, hi, he]
  by_cases e0 : t0 = u0 <;> by_cases e1 : t1 = u1 <;> by_cases e2 : t2 = u2 <;> by_cases e3 : t3 = u3 <;> by_cases e4 : t4 = u4 <;> simp [e0, e1, e2, e3, e4]
theorem aeql_run (t u : Ans) (w : World) : (binOp .eql 32 t.agg u.agg).run Try.prog w = .ok (.bool (decide (t = u))) w := by
  rw [run_eql_struct, aeq_run]; rfl

theorem aeql_same (e r b l s : Int) (w : World) : (binOp .eql 32 (.agg #[.int .i64 e, .int .i64 r, .int .i64 b, .int .i64 l, .int .i64 s]) (.agg #[.int .i64 e, .int .i64 r, .int .i64 b, .int .i64 l, .int .i64 s])).run Try.prog w = .ok (.bool true) w := by
  have h := aeql_run ⟨e, r, b, l, s⟩ ⟨e, r, b, l, s⟩ w
  simpa using h

theorem aneq_same (e r b l s : Int) (w : World) : (binOp .neq 32 (.agg #[.int .i64 e, .int .i64 r, .int .i64 b, .int .i64 l, .int .i64 s]) (.agg #[.int .i64 e, .int .i64 r, .int .i64 b, .int .i64 l, .int .i64 s])).run Try.prog w = .ok (.bool false) w := by
  have h := aeq_run ⟨e, r, b, l, s⟩ ⟨e, r, b, l, s⟩ w
  rw [run_neq_struct, h]
  simp

end Go.Proofs.Ytoofmofaimdhpaa

namespace Go.Proofs.Ytoofmofaimdhpaa
open Go.ChangeShapes Go.WideShapes Go.ChangeAt Go.RowKit
set_option maxRecDepth 100000

def layTen : Lay Try.prog 55 Tenant := Lay.struct Tenant.cells 5 40 (fun _ => rfl) (by decide) (by decide) (fun x u hu => by simp at hu; rcases hu with h | h | h | h | h <;> subst h <;> rfl) (by kernel_rfl) _ Try.underlying55 rfl
end Go.Proofs.Ytoofmofaimdhpaa

/- The place of the first that is so; what is kept of a row. Plain mathematics. -/
namespace Go.Proofs.Ytoofmofaimdhpaa
section
variable {α : Type} {p q : α → Bool} {xs us : List α} {i j k : Nat}
/-- The place of the first that is so; -1: none. -/
def idxL (p : α → Bool) (xs : List α) : Int := match xs.findIdx? p with | some k => (k : Int) | none => -1
theorem idxL_some (hk : k < xs.length) (hno : ∀ j (h : j < xs.length), j < k → p xs[j] = false) (hp : p xs[k] = true) : idxL p xs = k := by
  have : xs.findIdx? p = some k := by
    rw [List.findIdx?_eq_some_iff_getElem]
    exact ⟨hk, hp, fun j hj => by rw [hno j (by omega) hj]; simp⟩
  unfold idxL; rw [this]
theorem idxL_none (hno : ∀ j (h : j < xs.length), p xs[j] = false) : idxL p xs = -1 := by
  have : xs.findIdx? p = none := by
    rw [List.findIdx?_eq_none_iff]
    intro x hx
    obtain ⟨j, hj, rfl⟩ := List.mem_iff_getElem.1 hx
    exact hno j hj
  unfold idxL; rw [this]
/-- The two ways of it. -/
theorem idxL_ways (p : α → Bool) (xs : List α) : (idxL p xs = -1 ∧ ∀ x ∈ xs, p x = false) ∨ ∃ k, ∃ hk : k < xs.length, idxL p xs = k ∧ p xs[k] = true ∧ ∀ j (h : j < xs.length), j < k → p xs[j] = false := by
  unfold idxL
  cases h : xs.findIdx? p with
  | none => exact .inl ⟨rfl, List.findIdx?_eq_none_iff.1 h⟩
  | some k =>
    obtain ⟨hk, h1, h2⟩ := List.findIdx?_eq_some_iff_getElem.1 h
    exact .inr ⟨k, hk, rfl, h1, fun j hj hlt => by simpa using h2 j hlt⟩
/-- The place found, told of the first that is so. -/
theorem idxL_find (p : α → Bool) (xs : List α) : (idxL p xs = -1 ∧ xs.find? p = none) ∨ ∃ k, ∃ hk : k < xs.length, idxL p xs = k ∧ xs.find? p = some xs[k] := by
  rcases idxL_ways p xs with ⟨h1, h2⟩ | ⟨k, hk, h1, h2, h3⟩
  · exact .inl ⟨h1, List.find?_eq_none.2 fun x hx => by rw [h2 x hx]; simp⟩
  · exact .inr ⟨k, hk, h1, List.find?_eq_some_iff_getElem.2 ⟨h2, k, hk, rfl, fun j hj => by rw [h3 j (by omega) hj]; rfl⟩⟩
/-- Whether what was looked for stands there. -/
def hitAt (cmp : α → Int) : Option α → Bool
  | some x => cmp x == 0
  | none => false
/-- DeleteFunc's rounds. -/
theorem df_keep (hj : j < xs.length) (hl : us.length = xs.length) (hij : i < j) (h1 : us.take i = (xs.take j).filter q) (h2 : us.drop j = xs.drop j) (hq : q xs[j] = true) :
    (us.set i xs[j]).take (i + 1) = (xs.take (j + 1)).filter q ∧ (us.set i xs[j]).drop (j + 1) = xs.drop (j + 1) := by
  constructor
  · rw [List.take_succ_eq_append_getElem (by rw [List.length_set]; omega), List.getElem_set_self, List.take_set_of_le (Nat.le_refl _), h1, List.take_succ_eq_append_getElem hj, List.filter_append, List.filter_cons, if_pos hq]; rfl
  · rw [List.drop_set_of_lt (by omega)]
    have := congrArg (List.drop 1) h2
    simpa using this
theorem df_drop (hj : j < xs.length) (h1 : us.take i = (xs.take j).filter q) (h2 : us.drop j = xs.drop j) (hq : q xs[j] = false) :
    us.take i = (xs.take (j + 1)).filter q ∧ us.drop (j + 1) = xs.drop (j + 1) := by
  constructor
  · rw [h1, List.take_succ_eq_append_getElem hj, List.filter_append, List.filter_cons, if_neg (by rw [hq]; simp)]; simp
  · have := congrArg (List.drop 1) h2
    simpa using this
theorem df_at (hj : j < xs.length) (hl : us.length = xs.length) (h2 : us.drop j = xs.drop j) : us[j]'(by omega) = xs[j] := by
  have := congrArg (fun l => l[0]?) h2
  simp only [List.getElem?_drop, Nat.add_zero, List.getElem?_eq_getElem hj, List.getElem?_eq_getElem (show j < us.length by omega), Option.some.injEq] at this
  exact this
theorem df_start (hk : k < xs.length) (hp : q xs[k] = false) (hno : ∀ j (h : j < xs.length), j < k → q xs[j] = true) : xs.take k = (xs.take (k + 1)).filter q := by
  rw [List.take_succ_eq_append_getElem hk, List.filter_append, List.filter_cons, if_neg (by rw [hp]; simp), List.filter_nil, List.append_nil]
  symm
  rw [List.filter_eq_self]
  intro x hx
  obtain ⟨j, hj, rfl⟩ := List.mem_iff_getElem.1 hx
  rw [List.length_take] at hj
  rw [List.getElem_take]
  exact hno j (by omega) (by omega)
end
end Go.Proofs.Ytoofmofaimdhpaa

/- slices.IndexFunc: the place of the first that is so. -/
namespace Go.Proofs.Ytoofmofaimdhpaa
open Go.ChangeShapes Go.WideShapes Go.ChangeAt Go.RowKit
set_option maxRecDepth 100000

set_option maxHeartbeats 1000000 in
theorem indexFuncTen (xs : List Tenant) (a : Option Addr) (n c : Nat) (fid : FuncId) (cap : Array Value) (p : Tenant → Bool) (w : World) (hn : xs.length = n) (hl : n ≤ maxLen) (hr : LRow layTen w a xs)
    (hcf : ∀ (args : Array Value) (w : World), (callFunc fid args).run Try.prog w = .ok (.enter fid args) w)
    (hf : ∀ x ∈ xs, ∀ w', Below w.heap.size w w' → Calls Try.prog fid (#[(layTen).val x] ++ cap) w' fun e w'' => e = .returned (.bool (p x)) ∧ Below w'.heap.size w' w'') :
    Calls Try.prog 83 #[.slice a n c, .func (.func fid) #[] cap] w fun e w' => e = .returned (.int .i64 (idxL p xs)) ∧ Below w.heap.size w w' := by
  subst hn
  have hl2 := lt_maxLen hl
  have HI := Lib.hid (fun k (hk : k < xs.length) => idxL_some (p := p) hk)
  have HN := Lib.hid (idxL_none (p := p) (xs := xs))
  have HF := Lib.hid hf
  generalize idxL p xs = res at HI HN ⊢
  clear hf
  go_enter Try.func83, Try.ntmps83
  go_wp2
  go_loopw [8] (fun i wr => ∃ k : Nat, k ≤ xs.length ∧ i = .int .i64 k ∧ (∀ j (h : j < xs.length), j < k → p xs[j] = false) ∧ Below w.heap.size w wr) (fun i _ => xs.length - (intOf i).toNat)
  case atStart => exact ⟨0, by omega, rfl, by omega, Below.refl _ _⟩
  case round =>
    obtain ⟨k, hk, rfl, hno, hb⟩ := hrel
    have HNO := Lib.hid hno
    clear hno
    by_cases hlt : k < xs.length
    · obtain ⟨b, o, rfl, hcs⟩ := hr.range hlt
      have hrange := Lib.hid (hcs _ hb)
      have HF1 := Lib.hid (HF.out xs[k] (List.getElem_mem hlt) wr hb)
      clear hcs
      cases hp : p xs[k] with
      | true =>
        go_wp2_with (first
          | (refine wpList_load_lay layTen rfl _ rfl b (o + k * (layTen).size) rfl _ hrange.out ?_)
          | (refine HF1.out.mono ?_; rw [hp]; rintro e w2 ⟨rfl, hb2⟩))
        go_returns
        exact ⟨ret_int (HI.out k hlt HNO.out hp).symm, hb.trans (hb2.mono hb.size)⟩
      | false =>
        go_wp2_with (first
          | (refine wpList_load_lay layTen rfl _ rfl b (o + k * (layTen).size) rfl _ hrange.out ?_)
          | (refine HF1.out.mono ?_; rw [hp]; rintro e w2 ⟨rfl, hb2⟩))
        go_roundw
        case rel => exact ⟨k + 1, by omega, by go_num, fun j h hj => by rcases Nat.lt_succ_iff_lt_or_eq.1 hj with h1 | rfl; exact HNO.out j h h1; exact hp, hb.trans (hb2.mono hb.size)⟩
        case measure => simp [intOf]; omega
    · go_wp2
      go_returns
      exact ⟨ret_int (HN.out fun j h => HNO.out j h (by omega)).symm, hb⟩
end Go.Proofs.Ytoofmofaimdhpaa

/- Rows that rise by a key. Plain mathematics. -/
namespace Go.Proofs.Ytoofmofaimdhpaa
section
variable {α : Type} {key : α → Int} {good : α → Bool}

def chainOk (key : α → Int) (good : α → Bool) : Int → List α → Bool
  | _, [] => true
  | a, x :: l => decide (a < key x) && good x && chainOk key good (key x) l
def lastKey (key : α → Int) (a : Int) (l : List α) : Int := match l.getLast? with | some x => key x | none => a
theorem lastKey_take {l : List α} {k : Nat} {a : Int} (h : k < l.length) : lastKey key a (l.take (k + 1)) = key l[k] := by
  unfold lastKey; rw [List.take_succ_eq_append_getElem h, List.getLast?_concat]
theorem chainOk_append : ∀ (l m : List α) (a : Int), chainOk key good a (l ++ m) = (chainOk key good a l && chainOk key good (lastKey key a l) m)
  | [], m, a => by simp [chainOk, lastKey]
  | x :: l, m, a => by
    have e : lastKey key a (x :: l) = lastKey key (key x) l := by
      unfold lastKey
      cases l with
      | nil => simp
      | cons y l =>
        rw [List.getLast?_cons_cons]
        cases h : (y :: l).getLast? with
        | none => simp at h
        | some z => rfl
    rw [List.cons_append, chainOk, chainOk, chainOk_append l m, e]
    simp only [Bool.and_assoc]
theorem chainOk_take {l : List α} {k : Nat} {a : Int} (h : k < l.length) : chainOk key good a (l.take (k + 1)) = (chainOk key good a (l.take k) && (decide (lastKey key a (l.take k) < key l[k]) && good l[k])) := by
  rw [List.take_succ_eq_append_getElem h, chainOk_append]; simp [chainOk]
theorem chainOk_bad {l : List α} {k : Nat} {a : Int} (h : k < l.length) (hb : (decide (lastKey key a (l.take k) < key l[k]) && good l[k]) = false) : chainOk key good a l = false := by
  have h1 : chainOk key good a (l.take (k + 1)) = false := by rw [chainOk_take h, hb, Bool.and_false]
  have h2 := chainOk_append (key := key) (good := good) (l.take (k + 1)) (l.drop (k + 1)) a
  rw [List.take_append_drop, h1, Bool.false_and] at h2
  exact h2
theorem chainOk_iff : ∀ {l : List α} {a : Int}, chainOk key good a l = true ↔ (∀ x ∈ l, a < key x ∧ good x = true) ∧ l.Pairwise (fun x y => key x < key y)
  | [], a => by simp [chainOk]
  | y :: l, a => by
    rw [chainOk, Bool.and_eq_true, Bool.and_eq_true, decide_eq_true_eq, chainOk_iff, List.pairwise_cons]
    constructor
    · rintro ⟨⟨h1, h2⟩, h3, h4⟩
      refine ⟨fun x hx => ?_, fun x hx => (h3 x hx).1, h4⟩
      rcases List.mem_cons.1 hx with rfl | hx
      · exact ⟨h1, h2⟩
      · have := h3 x hx; exact ⟨by omega, this.2⟩
    · rintro ⟨h1, h2, h3⟩
      exact ⟨h1 y (List.mem_cons_self ..), fun x hx => ⟨h2 x hx, (h1 x (List.mem_cons_of_mem _ hx)).2⟩, h3⟩
theorem lastKey_ge {l : List α} {a : Int} (h : chainOk key good a l = true) : a ≤ lastKey key a l := by
  unfold lastKey
  cases hl : l.getLast? with
  | none => exact Int.le_refl _
  | some x => have := ((chainOk_iff.1 h).1 x (List.mem_of_getLast? hl)).1; simp only; omega

/-- The one of a key. -/
def findK (key : α → Int) (l : List α) (id : Int) : Option α := l.find? (fun x => key x == id)
theorem findK_mem {l : List α} {id : Int} {x : α} (h : findK key l id = some x) : x ∈ l ∧ key x = id :=
  ⟨List.mem_of_find?_eq_some h, by simpa using List.find?_some h⟩
theorem findK_at {l : List α} {id : Int} {k : Nat} (hs : l.Pairwise (fun x y => key x < key y)) (hk : k < l.length) (h : key l[k] = id) : findK key l id = some l[k] := by
  unfold findK
  rw [List.find?_eq_some_iff_getElem]
  refine ⟨by simpa using h, k, hk, rfl, fun j hj => ?_⟩
  have := (List.pairwise_iff_getElem.1 hs) j k (by omega) hk hj
  simp; omega
theorem findK_none {l : List α} {id : Int} (h : ∀ j (hj : j < l.length), key l[j] ≠ id) : findK key l id = none := by
  unfold findK
  rw [List.find?_eq_none]
  intro x hx
  obtain ⟨j, hj, rfl⟩ := List.mem_iff_getElem.1 hx
  simpa using h j hj
/-- Put into its place, in the place of the one of its key. -/
def insK (key : α → Int) (x : α) : List α → List α
  | [] => [x]
  | y :: l => if key x < key y then x :: y :: l else if key y = key x then x :: l else y :: insK key x l
/-- How many are less. -/
def lessK (key : α → Int) (id : Int) : List α → Nat
  | [] => 0
  | y :: l => if key y < id then lessK key id l + 1 else 0
theorem lessK_le (id : Int) : ∀ l : List α, lessK key id l ≤ l.length
  | [] => Nat.le_refl _
  | y :: l => by unfold lessK; split <;> simp; exact lessK_le id l
theorem lessK_lo (id : Int) : ∀ {l : List α} (j : Nat) (h : j < l.length), j < lessK key id l → key l[j] < id
  | y :: l, 0, _, hj => by unfold lessK at hj; split at hj; assumption; omega
  | y :: l, j + 1, h, hj => by
    unfold lessK at hj
    split at hj
    · exact lessK_lo id j (by simpa using h) (by omega)
    · omega
theorem lessK_hi (id : Int) : ∀ {l : List α}, l.Pairwise (fun x y => key x < key y) → ∀ (j : Nat) (h : j < l.length), lessK key id l ≤ j → id ≤ key l[j]
  | y :: l, hs, 0, _, hj => by unfold lessK at hj; split at hj; omega; simp; omega
  | y :: l, hs, j + 1, h, hj => by
    rw [List.pairwise_cons] at hs
    unfold lessK at hj
    split at hj
    · exact lessK_hi id hs.2 j (by simpa using h) (by omega)
    · have h2 : l[j]'(by simpa using h) ∈ l := List.getElem_mem _
      have := hs.1 _ h2
      simp only [List.getElem_cons_succ]
      omega
theorem insK_none {x : α} : ∀ {l : List α}, (∀ y, l[lessK key (key x) l]? = some y → key y ≠ key x) → insK key x l = l.take (lessK key (key x) l) ++ x :: l.drop (lessK key (key x) l)
  | [], _ => rfl
  | y :: l, h => by
    unfold insK lessK at *
    by_cases h1 : key y < key x
    · rw [if_neg (by omega), if_neg (by omega), if_pos h1]
      simp only [if_pos h1, List.getElem?_cons_succ] at h
      rw [insK_none h]; rfl
    · simp only [if_neg h1, List.getElem?_cons_zero, Option.some.injEq, forall_eq'] at h
      rw [if_pos (by omega), if_neg h1]; rfl
theorem insK_some {x : α} : ∀ {l : List α} {y : α}, l[lessK key (key x) l]? = some y → key y = key x → insK key x l = l.set (lessK key (key x) l) x
  | y :: l, z, h, hz => by
    unfold insK lessK at *
    by_cases h1 : key y < key x
    · rw [if_neg (by omega), if_neg (by omega), if_pos h1]
      simp only [if_pos h1, List.getElem?_cons_succ] at h
      rw [insK_some h hz]; rfl
    · simp only [if_neg h1, List.getElem?_cons_zero, Option.some.injEq] at h
      subst h
      rw [if_neg (by omega), if_pos hz, if_neg h1]; rfl
  | [], _, h, _ => by simp at h
theorem mem_insK {x y : α} : ∀ {l : List α}, y ∈ insK key x l → y = x ∨ y ∈ l
  | [], h => by simp [insK] at h; exact .inl h
  | z :: l, h => by
    unfold insK at h
    split at h
    · simpa using h
    · split at h
      · rcases List.mem_cons.1 h with h | h
        · exact .inl h
        · exact .inr (List.mem_cons_of_mem _ h)
      · rcases List.mem_cons.1 h with h | h
        · exact .inr (by rw [h]; exact List.mem_cons_self ..)
        · exact (mem_insK h).imp id (List.mem_cons_of_mem _)
theorem insK_sorted {x : α} : ∀ {l : List α}, l.Pairwise (fun x y => key x < key y) → (insK key x l).Pairwise (fun x y => key x < key y)
  | [], _ => by simp [insK]
  | z :: l, h => by
    rw [List.pairwise_cons] at h
    unfold insK
    split
    · rename_i hlt
      rw [List.pairwise_cons, List.pairwise_cons]
      refine ⟨fun y hy => ?_, h⟩
      rcases List.mem_cons.1 hy with rfl | hy
      · exact hlt
      · have := h.1 y hy; omega
    · split
      · rename_i he
        rw [List.pairwise_cons]
        exact ⟨fun y hy => by have := h.1 y hy; omega, h.2⟩
      · rename_i h1 h2
        rw [List.pairwise_cons]
        refine ⟨fun y hy => ?_, insK_sorted h.2⟩
        rcases mem_insK hy with rfl | hy
        · omega
        · exact h.1 y hy
theorem chainOk_insK {x : α} {l : List α} {a : Int} (h : chainOk key good a l = true) (hx : a < key x) (hg : good x = true) : chainOk key good a (insK key x l) = true := by
  obtain ⟨h1, h2⟩ := chainOk_iff.1 h
  refine chainOk_iff.2 ⟨fun y hy => ?_, insK_sorted h2⟩
  rcases mem_insK hy with rfl | hy
  · exact ⟨hx, hg⟩
  · exact h1 y hy
theorem find_insK_self {x : α} : ∀ (l : List α), l.Pairwise (fun x y => key x < key y) → findK key (insK key x l) (key x) = some x
  | [], _ => by simp [insK, findK]
  | z :: l, h => by
    rw [List.pairwise_cons] at h
    unfold insK
    split
    · simp [findK]
    · split
      · simp [findK]
      · rename_i h1 h2
        have := find_insK_self l h.2 (x := x)
        unfold findK at this ⊢
        rw [List.find?_cons_of_neg (by simpa using h2)]
        exact this
theorem find_insK_other {x : α} {id : Int} (h : key x ≠ id) : ∀ l : List α, findK key (insK key x l) id = findK key l id
  | [] => by simp [insK, findK, h]
  | z :: l => by
    have ih := find_insK_other h l
    unfold insK
    split
    · unfold findK; rw [List.find?_cons_of_neg (by simpa using h)]
    · split
      · rename_i h1 h2
        unfold findK
        rw [List.find?_cons_of_neg (by simpa using h), List.find?_cons_of_neg (by simp; omega)]
      · unfold findK at ih ⊢
        rw [List.find?_cons, List.find?_cons, ih]
theorem insK_length (x : α) : ∀ l : List α, (insK key x l).length ≤ l.length + 1
  | [] => by simp [insK]
  | z :: l => by
    have := insK_length x l
    unfold insK
    split
    · simp
    · split <;> simp; omega
/-- The document's way to put one in: over the row, once. -/
def putStep (key : α → Int) (x : α) (acc : List α × Bool) (y : α) : List α × Bool :=
  ((if acc.2 = false ∧ key x ≤ key y then acc.1 ++ [x] else acc.1) ++ (if key y = key x then [] else [y]), acc.2 || decide (key x ≤ key y))
def putRef (key : α → Int) (x : α) (l : List α) : List α := if (l.foldl (putStep key x) ([], false)).2 then (l.foldl (putStep key x) ([], false)).1 else (l.foldl (putStep key x) ([], false)).1 ++ [x]
theorem putStep_true {x : α} : ∀ (l pre : List α), (∀ y ∈ l, key y ≠ key x) → l.foldl (putStep key x) (pre, true) = (pre ++ l, true)
  | [], pre, _ => by simp
  | y :: l, pre, h => by
    rw [List.foldl_cons]
    have hy := h y (List.mem_cons_self ..)
    have : putStep key x (pre, true) y = (pre ++ [y], true) := by simp [putStep, hy]
    rw [this, putStep_true l _ fun z hz => h z (List.mem_cons_of_mem _ hz)]
    simp
theorem putStep_false {x : α} : ∀ (l pre : List α), l.Pairwise (fun x y => key x < key y) → (if (l.foldl (putStep key x) (pre, false)).2 then (l.foldl (putStep key x) (pre, false)).1 else (l.foldl (putStep key x) (pre, false)).1 ++ [x]) = pre ++ insK key x l
  | [], pre, _ => by simp [insK]
  | y :: l, pre, h => by
    rw [List.pairwise_cons] at h
    rw [List.foldl_cons]
    unfold insK
    by_cases h1 : key x < key y
    · have : putStep key x (pre, false) y = (pre ++ [x, y], true) := by
        have h2 : key x ≤ key y := by omega
        have h3 : ¬ key y = key x := by omega
        simp [putStep, h2, h3]
      rw [this, putStep_true l _ fun z hz => by have := h.1 z hz; omega, if_pos h1]
      simp
    · rw [if_neg h1]
      by_cases h2 : key y = key x
      · have : putStep key x (pre, false) y = (pre ++ [x], true) := by simp [putStep, h2]
        rw [this, putStep_true l _ fun z hz => by have := h.1 z hz; omega, if_pos h2]
        simp
      · have : putStep key x (pre, false) y = (pre ++ [y], false) := by
          have h3 : ¬ key x ≤ key y := by omega
          simp [putStep, h2, h3]
        rw [this, if_neg h2]
        have := putStep_false l (pre ++ [y]) h.2 (x := x)
        rw [this]; simp
theorem putRef_eq {x : α} {l : List α} (h : l.Pairwise (fun x y => key x < key y)) : putRef key x l = insK key x l := by
  have := putStep_false l [] h (x := x)
  rw [List.nil_append] at this
  exact this
end
end Go.Proofs.Ytoofmofaimdhpaa

namespace Go.Proofs.Ytoofmofaimdhpaa
open Go.ChangeShapes Go.WideShapes Go.ChangeAt Go.RowKit
set_option maxRecDepth 100000

structure Lease where
  id : Int
  tenant : Int
  shaper : Int
  epoch : Int
  number : Int
  size : Int
  spent : Int
  deriving DecidableEq
abbrev Lease.cells (t : Lease) : List Value := [.int .i64 t.id, .int .i64 t.tenant, .int .i64 t.shaper, .int .i64 t.epoch, .int .i64 t.number, .int .i64 t.size, .int .i64 t.spent]
abbrev Lease.agg (t : Lease) : Value := .agg #[.int .i64 t.id, .int .i64 t.tenant, .int .i64 t.shaper, .int .i64 t.epoch, .int .i64 t.number, .int .i64 t.size, .int .i64 t.spent]
def layLea : Lay Try.prog 38 Lease := Lay.struct Lease.cells 7 56 (fun _ => rfl) (by decide) (by decide) (fun x u hu => by simp at hu; rcases hu with h | h | h | h | h | h | h <;> subst h <;> rfl) (by kernel_rfl) _ Try.underlying38 rfl
theorem layLea_val (t : Lease) : layLea.val t = t.agg := rfl
theorem cellsLea {w : World} {b o : Nat} {t : Lease} (h : w.rangeAt b o t.cells) : w.cell? ⟨b, o, none⟩ = some (.int .i64 t.id) ∧ w.cell? ⟨b, o + 1, none⟩ = some (.int .i64 t.tenant) ∧ w.cell? ⟨b, o + 2, none⟩ = some (.int .i64 t.shaper) ∧ w.cell? ⟨b, o + 3, none⟩ = some (.int .i64 t.epoch) ∧ w.cell? ⟨b, o + 4, none⟩ = some (.int .i64 t.number) ∧ w.cell? ⟨b, o + 5, none⟩ = some (.int .i64 t.size) ∧ w.cell? ⟨b, o + 6, none⟩ = some (.int .i64 t.spent) :=
  ⟨h 0 _ rfl, h 1 _ rfl, h 2 _ rfl, h 3 _ rfl, h 4 _ rfl, h 5 _ rfl, h 6 _ rfl⟩
theorem atLea {w : World} {a : Option Addr} {ts : List Lease} (h : LRow layLea w a ts) {k : Nat} (hk : k < ts.length) :
    ∃ b o, a = some ⟨b, o, none⟩ ∧ ∀ w', Below w.heap.size w w' → w'.cell? ⟨b, o + k * 7, none⟩ = some (.int .i64 ts[k].id) ∧ w'.cell? ⟨b, o + k * 7 + 1, none⟩ = some (.int .i64 ts[k].tenant) ∧ w'.cell? ⟨b, o + k * 7 + 2, none⟩ = some (.int .i64 ts[k].shaper) ∧ w'.cell? ⟨b, o + k * 7 + 3, none⟩ = some (.int .i64 ts[k].epoch) ∧ w'.cell? ⟨b, o + k * 7 + 4, none⟩ = some (.int .i64 ts[k].number) ∧ w'.cell? ⟨b, o + k * 7 + 5, none⟩ = some (.int .i64 ts[k].size) ∧ w'.cell? ⟨b, o + k * 7 + 6, none⟩ = some (.int .i64 ts[k].spent) := by
  obtain ⟨b, o, rfl, hc⟩ := LRow.range h hk
  exact ⟨b, o, rfl, fun w' hb => cellsLea (hc w' hb)⟩
theorem eqLea_run (t u : Lease) (w : World) : (Op.equalIn 10000 38 t.agg u.agg).run Try.prog w = .ok (decide (t = u)) w := by
  obtain ⟨t0, t1, t2, t3, t4, t5, t6⟩ := t
  obtain ⟨u0, u1, u2, u3, u4, u5, u6⟩ := u
  have hp : Try.prog.stoodInHeld 38 = false := by kernel_rfl
  have hint := fun (d : Nat) (a b : Int) (w : World) => run_equalIn_int (P := Try.prog) w d 3 .i64 .i64 a b Try.underlying3
  simp [go_sem, hp, hint]
  by_cases e0 : t0 = u0 <;> by_cases e1 : t1 = u1 <;> by_cases e2 : t2 = u2 <;> by_cases e3 : t3 = u3 <;> by_cases e4 : t4 = u4 <;> by_cases e5 : t5 = u5 <;> by_cases e6 : t6 = u6 <;> simp [e0, e1, e2, e3, e4, e5, e6]
theorem eqlLea_run (t u : Lease) (w : World) : (binOp .eql 38 t.agg u.agg).run Try.prog w = .ok (.bool (decide (t = u))) w := by
  rw [run_eql_struct, eqLea_run]; rfl
theorem neqLea_run (t u : Lease) (w : World) : (binOp .neq 38 t.agg u.agg).run Try.prog w = .ok (.bool (!decide (t = u))) w := by
  rw [run_neq_struct, eqLea_run]; rfl
end Go.Proofs.Ytoofmofaimdhpaa

namespace Go.Proofs.Ytoofmofaimdhpaa
open Go.ChangeShapes Go.WideShapes Go.ChangeAt Go.RowKit
set_option maxRecDepth 100000

structure Desk where
  shaper : Int
  epoch : Int
  number : Int
  answer : Ans
  deriving DecidableEq
abbrev Desk.cells (t : Desk) : List Value := [.int .i64 t.shaper, .int .i64 t.epoch, .int .i64 t.number, .int .i64 t.answer.e, .int .i64 t.answer.rate, .int .i64 t.answer.burst, .int .i64 t.answer.lease, .int .i64 t.answer.size]
abbrev Desk.agg (t : Desk) : Value := .agg #[.int .i64 t.shaper, .int .i64 t.epoch, .int .i64 t.number, .int .i64 t.answer.e, .int .i64 t.answer.rate, .int .i64 t.answer.burst, .int .i64 t.answer.lease, .int .i64 t.answer.size]
def layDsk : Lay Try.prog 72 Desk := Lay.struct Desk.cells 8 64 (fun _ => rfl) (by decide) (by decide) (fun x u hu => by simp at hu; rcases hu with h | h | h | h | h | h | h | h <;> subst h <;> rfl) (by kernel_rfl) _ Try.underlying72 rfl
theorem layDsk_val (t : Desk) : layDsk.val t = t.agg := rfl
theorem cellsDsk {w : World} {b o : Nat} {t : Desk} (h : w.rangeAt b o t.cells) : w.cell? ⟨b, o, none⟩ = some (.int .i64 t.shaper) ∧ w.cell? ⟨b, o + 1, none⟩ = some (.int .i64 t.epoch) ∧ w.cell? ⟨b, o + 2, none⟩ = some (.int .i64 t.number) ∧ w.cell? ⟨b, o + 3, none⟩ = some (.int .i64 t.answer.e) ∧ w.cell? ⟨b, o + 4, none⟩ = some (.int .i64 t.answer.rate) ∧ w.cell? ⟨b, o + 5, none⟩ = some (.int .i64 t.answer.burst) ∧ w.cell? ⟨b, o + 6, none⟩ = some (.int .i64 t.answer.lease) ∧ w.cell? ⟨b, o + 7, none⟩ = some (.int .i64 t.answer.size) :=
  ⟨h 0 _ rfl, h 1 _ rfl, h 2 _ rfl, h 3 _ rfl, h 4 _ rfl, h 5 _ rfl, h 6 _ rfl, h 7 _ rfl⟩
theorem atDsk {w : World} {a : Option Addr} {ts : List Desk} (h : LRow layDsk w a ts) {k : Nat} (hk : k < ts.length) :
    ∃ b o, a = some ⟨b, o, none⟩ ∧ ∀ w', Below w.heap.size w w' → w'.cell? ⟨b, o + k * 8, none⟩ = some (.int .i64 ts[k].shaper) ∧ w'.cell? ⟨b, o + k * 8 + 1, none⟩ = some (.int .i64 ts[k].epoch) ∧ w'.cell? ⟨b, o + k * 8 + 2, none⟩ = some (.int .i64 ts[k].number) ∧ w'.cell? ⟨b, o + k * 8 + 3, none⟩ = some (.int .i64 ts[k].answer.e) ∧ w'.cell? ⟨b, o + k * 8 + 4, none⟩ = some (.int .i64 ts[k].answer.rate) ∧ w'.cell? ⟨b, o + k * 8 + 5, none⟩ = some (.int .i64 ts[k].answer.burst) ∧ w'.cell? ⟨b, o + k * 8 + 6, none⟩ = some (.int .i64 ts[k].answer.lease) ∧ w'.cell? ⟨b, o + k * 8 + 7, none⟩ = some (.int .i64 ts[k].answer.size) := by
  obtain ⟨b, o, rfl, hc⟩ := LRow.range h hk
  exact ⟨b, o, rfl, fun w' hb => cellsDsk (hc w' hb)⟩
theorem eqDsk_run (t u : Desk) (w : World) : (Op.equalIn 10000 72 t.agg u.agg).run Try.prog w = .ok (decide (t = u)) w := by
  obtain ⟨t0, t1, t2, ⟨t3e, t3rate, t3burst, t3lease, t3size⟩⟩ := t
  obtain ⟨u0, u1, u2, ⟨u3e, u3rate, u3burst, u3lease, u3size⟩⟩ := u
  have hp : Try.prog.stoodInHeld 72 = false := by kernel_rfl
  have herrno := fun (d : Nat) (a b : Int) (w : World) => run_equalIn_int (P := Try.prog) w d 30 .i64 .i64 a b Try.underlying30
  have hint := fun (d : Nat) (a b : Int) (w : World) => run_equalIn_int (P := Try.prog) w d 3 .i64 .i64 a b Try.underlying3
  have hpAns : Try.prog.stoodInHeld 32 = false := by kernel_rfl
  simp [go_sem, hp, herrno, hint, hpAns]
  by_cases e0 : t0 = u0 <;> by_cases e1 : t1 = u1 <;> by_cases e2 : t2 = u2 <;> by_cases e3 : t3e = u3e <;> by_cases e4 : t3rate = u3rate <;> by_cases e5 : t3burst = u3burst <;> by_cases e6 : t3lease = u3lease <;> by_cases e7 : t3size = u3size <;> simp [e0, e1, e2, e3, e4, e5, e6, e7]
theorem eqlDsk_run (t u : Desk) (w : World) : (binOp .eql 72 t.agg u.agg).run Try.prog w = .ok (.bool (decide (t = u))) w := by
  rw [run_eql_struct, eqDsk_run]; rfl
theorem neqDsk_run (t u : Desk) (w : World) : (binOp .neq 72 t.agg u.agg).run Try.prog w = .ok (.bool (!decide (t = u))) w := by
  rw [run_neq_struct, eqDsk_run]; rfl
end Go.Proofs.Ytoofmofaimdhpaa

namespace Go.Proofs.Ytoofmofaimdhpaa
open Go.ChangeShapes Go.WideShapes Go.ChangeAt Go.RowKit
set_option maxRecDepth 100000

structure Session where
  client : Int
  number : Int
  answer : Ans
  deriving DecidableEq
abbrev Session.cells (t : Session) : List Value := [.int .i64 t.client, .int .i64 t.number, .int .i64 t.answer.e, .int .i64 t.answer.rate, .int .i64 t.answer.burst, .int .i64 t.answer.lease, .int .i64 t.answer.size]
abbrev Session.agg (t : Session) : Value := .agg #[.int .i64 t.client, .int .i64 t.number, .int .i64 t.answer.e, .int .i64 t.answer.rate, .int .i64 t.answer.burst, .int .i64 t.answer.lease, .int .i64 t.answer.size]
def laySes : Lay Try.prog 70 Session := Lay.struct Session.cells 7 56 (fun _ => rfl) (by decide) (by decide) (fun x u hu => by simp at hu; rcases hu with h | h | h | h | h | h | h <;> subst h <;> rfl) (by kernel_rfl) _ Try.underlying70 rfl
theorem laySes_val (t : Session) : laySes.val t = t.agg := rfl
theorem cellsSes {w : World} {b o : Nat} {t : Session} (h : w.rangeAt b o t.cells) : w.cell? ⟨b, o, none⟩ = some (.int .i64 t.client) ∧ w.cell? ⟨b, o + 1, none⟩ = some (.int .i64 t.number) ∧ w.cell? ⟨b, o + 2, none⟩ = some (.int .i64 t.answer.e) ∧ w.cell? ⟨b, o + 3, none⟩ = some (.int .i64 t.answer.rate) ∧ w.cell? ⟨b, o + 4, none⟩ = some (.int .i64 t.answer.burst) ∧ w.cell? ⟨b, o + 5, none⟩ = some (.int .i64 t.answer.lease) ∧ w.cell? ⟨b, o + 6, none⟩ = some (.int .i64 t.answer.size) :=
  ⟨h 0 _ rfl, h 1 _ rfl, h 2 _ rfl, h 3 _ rfl, h 4 _ rfl, h 5 _ rfl, h 6 _ rfl⟩
theorem atSes {w : World} {a : Option Addr} {ts : List Session} (h : LRow laySes w a ts) {k : Nat} (hk : k < ts.length) :
    ∃ b o, a = some ⟨b, o, none⟩ ∧ ∀ w', Below w.heap.size w w' → w'.cell? ⟨b, o + k * 7, none⟩ = some (.int .i64 ts[k].client) ∧ w'.cell? ⟨b, o + k * 7 + 1, none⟩ = some (.int .i64 ts[k].number) ∧ w'.cell? ⟨b, o + k * 7 + 2, none⟩ = some (.int .i64 ts[k].answer.e) ∧ w'.cell? ⟨b, o + k * 7 + 3, none⟩ = some (.int .i64 ts[k].answer.rate) ∧ w'.cell? ⟨b, o + k * 7 + 4, none⟩ = some (.int .i64 ts[k].answer.burst) ∧ w'.cell? ⟨b, o + k * 7 + 5, none⟩ = some (.int .i64 ts[k].answer.lease) ∧ w'.cell? ⟨b, o + k * 7 + 6, none⟩ = some (.int .i64 ts[k].answer.size) := by
  obtain ⟨b, o, rfl, hc⟩ := LRow.range h hk
  exact ⟨b, o, rfl, fun w' hb => cellsSes (hc w' hb)⟩
theorem eqSes_run (t u : Session) (w : World) : (Op.equalIn 10000 70 t.agg u.agg).run Try.prog w = .ok (decide (t = u)) w := by
  obtain ⟨t0, t1, ⟨t2e, t2rate, t2burst, t2lease, t2size⟩⟩ := t
  obtain ⟨u0, u1, ⟨u2e, u2rate, u2burst, u2lease, u2size⟩⟩ := u
  have hp : Try.prog.stoodInHeld 70 = false := by kernel_rfl
  have herrno := fun (d : Nat) (a b : Int) (w : World) => run_equalIn_int (P := Try.prog) w d 30 .i64 .i64 a b Try.underlying30
  have hint := fun (d : Nat) (a b : Int) (w : World) => run_equalIn_int (P := Try.prog) w d 3 .i64 .i64 a b Try.underlying3
  have hpAns : Try.prog.stoodInHeld 32 = false := by kernel_rfl
  simp [go_sem, hp, herrno, hint, hpAns]
  by_cases e0 : t0 = u0 <;> by_cases e1 : t1 = u1 <;> by_cases e2 : t2e = u2e <;> by_cases e3 : t2rate = u2rate <;> by_cases e4 : t2burst = u2burst <;> by_cases e5 : t2lease = u2lease <;> by_cases e6 : t2size = u2size <;> simp [e0, e1, e2, e3, e4, e5, e6]
theorem eqlSes_run (t u : Session) (w : World) : (binOp .eql 70 t.agg u.agg).run Try.prog w = .ok (.bool (decide (t = u))) w := by
  rw [run_eql_struct, eqSes_run]; rfl
theorem neqSes_run (t u : Session) (w : World) : (binOp .neq 70 t.agg u.agg).run Try.prog w = .ok (.bool (!decide (t = u))) w := by
  rw [run_neq_struct, eqSes_run]; rfl
end Go.Proofs.Ytoofmofaimdhpaa

/- Blocks of the call's own known whole: copies into them; a new row out of an old one's beginning. -/
namespace Go.Proofs.Ytoofmofaimdhpaa
open Go.ChangeShapes Go.WideShapes Go.ChangeAt Go.RowKit
set_option maxRecDepth 100000

section
variable {P : Program} {e : TypeId} {α : Type}

theorem run_copy_whole (L : Lay P e α) {t : TypeId} (ht : P.underlying t = some (.slice e)) (ty : TypeId) (w : World) (g o : Nat) (A M R cs : List Value) (te : TypeId) (hg : w.heap[g]? = some (.cells (A ++ (M ++ R)).toArray te (0, 0))) (ho : A.length = o)
    (hM : M.length = cs.length) (h1 : ∀ u ∈ cs, u.oneCell' = true) (dn dc sn sc m : Nat) (sp : Addr) (hm : Nat.min sn dn = m) (hl : cs.length = m * L.size) (hsrc : ∀ j v, cs[j]? = some v → w.cell? (sp.add j) = some v) :
    (Builtin.copy_ #[t, t] ty #[.slice (some ⟨g, o, none⟩) dn dc, .slice (some sp) sn sc]).run P w = .ok (goInt m) (w.setRow g (A ++ (cs ++ R)).toArray) := by
  obtain ⟨i, z, h2, _, h3, _⟩ := L.parts
  have hsz : (sizeOf e).run P w = .ok L.size w := by simp [sizeOf, typeInfo, h2, h3]
  have hfc := run_firstCells_some (P := P) (w := w) L.size m sp sn sc cs hl hsrc
  have hst := run_storeCells_at (P := P) g o te cs 0 (A ++ (M ++ R)).toArray w hg (by simp; omega) h1
  have hrow : ((A ++ (M ++ R)).toArray.toList.take (o + 0) ++ cs ++ (A ++ (M ++ R)).toArray.toList.drop (o + 0 + cs.length)) = A ++ (cs ++ R) := by
    rw [List.toList_toArray, Nat.add_zero, ← ho, List.take_left, ← hM, ← List.drop_drop, List.drop_left, List.drop_left, List.append_assoc]
  rw [hrow] at hst
  simp only [Builtin.copy_]
  simp [run_underlying ht, Builtin.lenOf, hm, hsz, hfc, hst]
theorem below_setRow' {B g : Nat} {w0 w : World} (hb : Below B w0 w) (hBg : B ≤ g) (cs : Array Value) : Below B w0 (w.setRow g cs) :=
  hb.trans ⟨rfl, rfl, rfl, by simp [World.setRow], fun k hk => setRow_other w g k cs (by omega)⟩

theorem wpList_copy_whole {ops : Array Oper} {rest : List Oper} {op : Oper} {a : Act} {w : World} {Q : Exit → Act → World → Prop} (L : Lay P e α) {t : TypeId} (ht : P.underlying t = some (.slice e)) (hgd : op.guard = none) (d s : Operand)
    (ho : op.op = .call { callee := .builtin .copy, args := #[d, s], argTypes := #[t, t] }) (g o : Nat) (A M R cs : List Value) (te : TypeId) (hg : w.heap[g]? = some (.cells (A ++ (M ++ R)).toArray te (0, 0))) (hoA : A.length = o)
    (hM : M.length = cs.length) (h1 : ∀ u ∈ cs, u.oneCell' = true) (dn dc sn sc m : Nat) (sp : Addr) (hm : Nat.min sn dn = m) (hl : cs.length = m * L.size) (hsrc : ∀ j v, cs[j]? = some v → w.cell? (sp.add j) = some v)
    (hd : a.eval d = .slice (some ⟨g, o, none⟩) dn dc) (hs : a.eval s = .slice (some sp) sn sc)
    (h : ∀ w', w'.heap[g]? = some (.cells (A ++ (cs ++ R)).toArray te (0, 0)) → (∀ B, B ≤ g → Below B w w') → (∀ k, k ≠ g → w'.heap[k]? = w.heap[k]?) → w'.heap.size = w.heap.size → wpList P ops Q rest (a.put op.dst (goInt m)) w') : wpList P ops Q (op :: rest) a w :=
  wpList_plain hgd fun K hK => by
    have hrun := run_copy_whole L ht op.type w g o A M R cs te hg hoA hM h1 dn dc sn sc m sp hm hl hsrc
    unfold Oper.wp execOp
    simp only [ho, resolve, invoke, builtin, Sem.run_bind, Sem.run_pure, Result.andThen_ok, List.map_toArray, List.map_cons, List.map_nil, hd, hs, hrun]
    exact hK _ _ (h _ (setRow_heap w g _ _ te _ hg) (fun B hB => below_setRow' (Below.refl _ _) hB _) (fun k hk => setRow_other w g k _ hk) (by simp [World.setRow]))

/-- append(s[:i], make(S, k)...) where there is no room: a new row: what stood first, then zeros. -/
theorem run_append_zeros (L : Lay P e α) {t tn : TypeId} (ht : P.underlying t = some (.slice e)) (htn : P.underlying tn = some (.int .i64)) (ty : TypeId) (w : World) (b o i c k : Nat) (A : List Value) (hA : A.length = i * L.size)
    (hsrc : ∀ j v, A[j]? = some v → w.cell? ⟨b, o + j, none⟩ = some v) (hk : 0 < k) (hg : c < i + k) (hby : (i + k) * L.bytes ≤ 140737488355328) :
    ∃ w' g' c' Z, (Builtin.append_ #[t, tn] ty #[.slice (some ⟨b, o, none⟩) i c, .int .i64 k]).run P w = .ok (.slice (some ⟨g', 0, none⟩) (i + k) c') w' ∧ g' = w.heap.size ∧ i + k ≤ c' ∧ c' ≤ maxLen ∧
      w'.heap[g']? = some (.cells (A ++ Z).toArray e (0, 0)) ∧ (A ++ Z).length = c' * L.size ∧ Below w.heap.size w w' ∧ w'.heap.size = w.heap.size + 1 := by
  obtain ⟨ti, z, h1, h2, h3, h4, h5, _⟩ := L.parts
  have hb := L.bpos
  have hsmall : i + k ≤ 140737488355328 := Nat.le_trans (Nat.le_mul_of_pos_right _ hb) hby
  have hold : (Builtin.firstCells ti.size i (.slice (some ⟨b, o, none⟩) i c)).run P w.drew = .ok A.toArray w.drew := by
    rw [h3]
    exact run_firstCells_some (P := P) (w := w.drew) L.size i ⟨b, o, none⟩ i c A hA (fun j v hj => by rw [Addr.add_mid]; exact hsrc j v hj)
  have hrun := Lib.run_append_grow_zeros (P := P) w t tn ty e ti z .i64 .i64 ht htn h1 h2 (some ⟨b, o, none⟩) i c A hold k hk (by rw [h3]; exact L.pos) hg (by omega)
    (by rw [h4]; have : k * L.bytes ≤ (i + k) * L.bytes := Nat.mul_le_mul_right _ (by omega); omega) (by rw [h4]; exact growslice_fits hg hby)
  have hle : i + k ≤ grownCap w (i + k) c e := by simp [grownCap, Question.cut]
  have hmax := grownCap_le_maxLen w (i + k) c e (by unfold maxLen; omega)
  refine ⟨_, w.heap.size, grownCap w (i + k) c e, (Builtin.zeroCells z.cells k ++ Builtin.zeroCells z.cells (grownCap w (i + k) c e - (i + k))).toList, hrun, rfl, hle, hmax, ?_, ?_, ?_, ?_⟩
  · have := heap_alloc_new w.drew (.cells (A.toArray ++ Builtin.zeroCells z.cells k ++ Builtin.zeroCells z.cells (grownCap w (i + k) c e - (i + k))) e)
    have h6 : w.drew.heap.size = w.heap.size := rfl
    rw [h6] at this
    rw [this]
    congr 2
    simp
  · simp [size_zeroCells, h5, hA]
    rw [← Nat.add_mul, ← Nat.add_mul]
    congr 1
    omega
  · exact ((Below.refl w.heap.size w).drew).alloc (Nat.le_refl _) _
  · simp
/-- out = append(out, y), y in a new row of one. -/
theorem wpList_app1 {ops : Array Oper} {rest : List Oper} {op : Oper} {ac : Act} {w : World} {cs : Array Value} {te : TypeId} {Q : Exit → Act → World → Prop} (L : Lay P e α) {t : TypeId} (ht : P.underlying t = some (.slice e)) (hgd : op.guard = none) (s x : Operand)
    (ho : op.op = .call { callee := .builtin .append, args := #[s, x], argTypes := #[t, t] }) (B : Nat) (a : Option Addr) (n c : Nat) (xs : List α) (hs : ac.eval s = .slice a n c) (hown : w.ownsRow B e L.size (.slice a n c) n (xs.flatMap L.cells))
    (y : α) (hcs : cs.toList = L.cells y) (hx : ac.eval x = .slice (some ⟨w.heap.size, 0, none⟩) 1 1) (hby : (n + 1) * L.bytes ≤ 140737488355328) (hB : B ≤ w.heap.size)
    (h : ∀ a' c' w', w'.ownsRow B e L.size (.slice a' (n + 1) c') (n + 1) ((xs ++ [y]).flatMap L.cells) → Below B w w' → wpList P ops Q rest (ac.put op.dst (.slice a' (n + 1) c')) w') : wpList P ops Q (op :: rest) ac (w.alloc (.cells cs te)) := by
  refine wpList_app (L.elem ht) hgd s x ho B (.slice a n c) n _ hs (hown.alloc _) (some ⟨w.heap.size, 0, none⟩) 1 1 (L.cells y) hx (by rw [L.len, Nat.one_mul]) (by rw [← hcs]; exact Row.new _ _ _ _) (L.one y) hby (Nat.le_trans hB (by simp)) ?_
  intro a' c' w' ho2 hg2
  refine h a' c' w' ?_ (Below.app ((Below.refl B w).alloc hB _) (hown.alloc _) hg2 (Nat.le_trans hB (by simp)))
  rw [List.flatMap_append, List.flatMap_cons, List.flatMap_nil, List.append_nil]
  exact ho2
/-- A thing read, its value spelled as one likes. -/
theorem wpList_load_as {ops : Array Oper} {rest : List Oper} {op : Oper} {a : Act} {w : World} {Q : Exit → Act → World → Prop} (L : Lay P e α) (hgd : op.guard = none) (x : Operand) (ho : op.op = .load e x)
    (b o : Nat) (hx : a.eval x = .pointer (some ⟨b, o, none⟩)) (y : α) (v : Value) (hv : L.val y = v) (hc : w.rangeAt b o (L.cells y)) (h : wpList P ops Q rest (a.put op.dst v) w) : wpList P ops Q (op :: rest) a w := by
  subst hv
  exact wpList_load_lay L hgd x ho b o hx y hc h
/-- A thing put into a variable: the world behind it is not looked into. -/
theorem wpList_store_there {ops : Array Oper} {rest : List Oper} {op : Oper} {a : Act} {w : World} {Q : Exit → Act → World → Prop} (L : Lay P e α) (hgd : op.guard = none) (x y : Operand) (ho : op.op = .store e x y)
    (b o : Nat) (z : α) (hx : a.eval x = .pointer (some ⟨b, o, none⟩)) (hy : a.eval y = L.val z) (ht : w.there b o L.size)
    (h : ∀ w', w'.rangeAt b o (L.cells z) → w'.there b o L.size → (∀ B, B ≤ b → Below B w w') → w'.heap.size = w.heap.size → wpList P ops Q rest (a.put op.dst undef) w') : wpList P ops Q (op :: rest) a w :=
  wpList_store_lay L hgd x y ho b o z hx hy ht (h _ (range_put z ht) (World.there_setCells ht _ _ _) (fun _ hB => Below.setCells hB _ _ (Below.refl _ _)) (setCells_size _ _ _ _))
theorem box_there {w w' : World} {cs : Array Value} {t : TypeId} (hb : Below (w.alloc (.cells cs t)).heap.size (w.alloc (.cells cs t)) w') : w'.there w.heap.size 0 cs.size :=
  there_below (there_new w cs t) hb (by simp)
theorem box_range {w w' : World} {cs : List Value} {t : TypeId} (hb : Below (w.alloc (.cells cs.toArray t)).heap.size (w.alloc (.cells cs.toArray t)) w') : w'.rangeAt w.heap.size 0 cs := fun j v hv => by
  rw [Nat.zero_add, own_cells hb j, List.getElem?_toArray, hv]
theorem Can.alloc {w : World} {B : Nat} {t : TypeId} {size : Nat} {a : Option Addr} {n c : Nat} {xs : List Value} (h : Can w B t size a n c xs) (o : Obj) : Can (w.alloc o) B t size a n c xs :=
  ⟨h.1, h.2.1, h.2.2.imp (fun ⟨h1, h2⟩ => ⟨h1, Row.alloc h2 o⟩) (fun h => h.alloc o)⟩
theorem own_whole {L : Lay P e α} {w : World} {B g n c : Nat} {A : List Value} (h : w.ownsRow B e L.size (.slice (some ⟨g, 0, none⟩) n c) n A) : B ≤ g ∧ n ≤ c ∧ c ≤ maxLen ∧ A.length = n * L.size ∧ ∃ D, w.heap[g]? = some (.cells (A ++ D).toArray e (0, 0)) ∧ (A ++ D).length = c * L.size := by
  obtain ⟨hl, h⟩ := h
  rcases h with ⟨hv, _⟩ | ⟨g', cap, cur, hv, hB, hg, hnc, hm, hs, ht⟩
  · cases hv
  · simp only [Value.slice.injEq, Option.some.injEq, Addr.mk.injEq, and_true] at hv
    obtain ⟨rfl, _, rfl⟩ := hv
    refine ⟨hB, hnc, hm, hl, cur.toList.drop (n * L.size), ?_, ?_⟩
    · rw [← ht, List.take_append_drop]; simpa using hg
    · rw [← ht, List.take_append_drop]; simpa using hs
theorem own_of_whole {L : Lay P e α} {w : World} {B g n c : Nat} {A D : List Value} (hB : B ≤ g) (hnc : n ≤ c) (hm : c ≤ maxLen) (hA : A.length = n * L.size) (hg : w.heap[g]? = some (.cells (A ++ D).toArray e (0, 0))) (hs : (A ++ D).length = c * L.size) :
    w.ownsRow B e L.size (.slice (some ⟨g, 0, none⟩) n c) n A :=
  ⟨hA, .inr ⟨g, c, (A ++ D).toArray, rfl, hB, hg, hnc, hm, by simpa using hs, by rw [List.toList_toArray, ← hA, List.take_left]⟩⟩
end
end Go.Proofs.Ytoofmofaimdhpaa

/- Maps of the call's own whose elements are ints, as functions of their keys, whatever the keys' type. -/
namespace Go.Proofs.Ytoofmofaimdhpaa
open Go.ChangeShapes Go.WideShapes Go.ChangeAt Go.RowKit Go.Maps
set_option maxRecDepth 100000

structure KeyKind (P : Program) (k : TypeId) (κ : Type) where
  keyed : Keyed P k
  enc : κ → Value
  kl : κ → Lit
  good : κ → Prop
  key : ∀ x, good x → keyOf P k (enc x) = some (kl x)
  inj : ∀ x y, enc x = enc y → x = y

section
variable {P : Program} {k e : TypeId} {κ : Type} {K : KeyKind P k κ}
theorem KeyKind.same (K : KeyKind P k κ) {x y : κ} (hx : K.good x) (hy : K.good y) (h : K.kl x = K.kl y) : x = y :=
  K.inj x y (K.keyed.inj (K.key x hx) (by rw [K.key y hy, h]))
theorem KeyKind.isKey (K : KeyKind P k κ) {x : κ} (hx : K.good x) : WideAt.IsKeyLit (K.kl x) := K.keyed.key (K.key x hx)

/-- The block is a map that reads as the function. -/
def MapI (K : KeyKind P k κ) (e : TypeId) (w : World) (b n : Nat) (f : κ → Option Int) : Prop :=
  ∃ D : DataW Unit, w.ownsMap P k (plainElem P e) b n D ∧ ∀ x, K.good x → D.atKey (K.kl x) (.lit (.int .i64 0)) = .lit (.int .i64 ((f x).getD 0)) ∧ Maps.has D (K.kl x) = (f x).isSome
def upd [DecidableEq κ] (f : κ → Option Int) (x : κ) (z : Int) : κ → Option Int := fun y => if y = x then some z else f y

theorem MapI.made (w : World) : MapI K e (w.alloc (.map #[] 0)) w.heap.size 0 (fun _ => none) :=
  ⟨.map [], World.ownsMap_made _ _ _ _, fun _ _ => ⟨rfl, rfl⟩⟩
theorem MapI.below {w w' : World} {b n B : Nat} {f : κ → Option Int} (h : MapI K e w b n f) (hb : Below B w w') (hB : b < B) : MapI K e w' b n f := by
  obtain ⟨D, ⟨es, clock, h1, h2⟩, hf⟩ := h
  exact ⟨D, ⟨es, clock, by rw [hb.block b hB]; exact h1, h2⟩, hf⟩
theorem MapI.lt {w : World} {b n : Nat} {f : κ → Option Int} (h : MapI K e w b n f) : b < w.heap.size := by
  obtain ⟨D, ⟨es, clock, h1, _⟩, _⟩ := h
  exact (Array.getElem?_eq_some_iff.1 h1).1
theorem MapI.mono {w : World} {b n m : Nat} {f : κ → Option Int} (h : MapI K e w b n f) (hn : n ≤ m) : MapI K e w b m f :=
  let ⟨D, h1, h2⟩ := h; ⟨D, h1.mono hn, h2⟩
theorem MapI.setFar {w : World} {b n : Nat} {f : κ → Option Int} (h : MapI K e w b n f) {p : Addr} (hp : p.block ≠ b) (v : Value) : MapI K e (w.setCell p v) b n f := by
  obtain ⟨D, ⟨es, clock, h1, h2⟩, hf⟩ := h
  exact ⟨D, ⟨es, clock, by rw [Below.heap_setCell _ _ _ _ (fun h => hp h.symm)]; exact h1, h2⟩, hf⟩
theorem MapI.alloc {w : World} {b n : Nat} {f : κ → Option Int} (h : MapI K e w b n f) (o : Obj) : MapI K e (w.alloc o) b n f :=
  h.below ((Below.refl w.heap.size w).alloc (Nat.le_refl _) o) h.lt

theorem MapI.grown {w w' : World} {b n b0 : Nat} {f : κ → Option Int} (h : MapI K e w b n f) (hg : w.grownBy w' (some b0)) (hne : b ≠ b0) : MapI K e w' b n f := by
  have hlt := h.lt
  obtain ⟨D, ⟨es, clock, h1, h2⟩, hf⟩ := h
  exact ⟨D, ⟨es, clock, by rw [hg.block b hlt (by simp; omega)]; exact h1, h2⟩, hf⟩
theorem MapI.rowFar {w w' : World} {b n : Nat} {f : κ → Option Int} (h : MapI K e w b n f) (hg : w.grownBy w' (some b)) {a : Option Addr} {xs : List Value} (hr : Row w a xs) : Row w' a xs := by
  by_cases h0 : xs = []
  · exact .inl h0
  · rcases hr with hr | ⟨g, o, rfl, hc⟩
    · exact absurd hr h0
    · have hlt := Row.lt (.inr ⟨g, o, rfl, hc⟩) h0
      have hne : g ≠ b := by
        rintro rfl
        obtain ⟨D, ⟨es, clock, h1, _⟩, _⟩ := h
        have := hc 0 (List.length_pos_iff.2 h0)
        simp [World.cell?, h1] at this
      exact .inr ⟨g, o, rfl, fun i hi => by
        rw [World.cell?_of_block (w := w) (hg.block g hlt (by simp; omega))]; exact hc i hi⟩
theorem Below.grownMore {w0 w w' : World} {b : Nat} (h : Below w0.heap.size w0 w) (hg : w.grownBy w' (some b)) (hb : w0.heap.size ≤ b) : Below w0.heap.size w0 w' :=
  h.grown hg h.size (fun k hk => by cases hk; exact hb)
theorem wpList_putI [DecidableEq κ] {w : World} {ops : Array Oper} {rest : List Oper} {o : Oper} {a : Act} {Q : Exit → Act → World → Prop} (K : KeyKind P k κ) {t : TypeId} (ht : P.underlying t = some (.map k e)) (he : P.underlying e = some (.int .i64)) (hg : o.guard = none)
    (m x v : Operand) (hop : o.op = Op.mapUpdate t m x v) (b n : Nat) (f : κ → Option Int) (hm : a.eval m = .map (some b)) (hown : MapI K e w b n f) (hn : n < maxLen) (y : κ) (hy : K.good y) (hx : a.eval x = K.enc y) (z : Int) (hv : a.eval v = .int .i64 z)
    (hz : (Lit.int .i64 z).wf = true) (h : ∀ w', MapI K e w' b (n + 1) (upd f y z) → w.grownBy w' (some b) → wpList P ops Q rest (a.put o.dst undef) w') : wpList P ops Q (o :: rest) a w := by
  obtain ⟨D, hD, hf⟩ := hown
  refine wpList_mapUpdate_own w hg m x v t hop k e K.keyed ht (plainElem P e) b n D hm hD hn _ _ (K.kl y) hx hv (K.key y hy) (.lit (.int .i64 z)) [] (plainElem_int he hz) ?_
  intro w' hD' hg'
  refine h w' ⟨_, hD', fun y' hy' => ?_⟩ hg'
  have hmap : IsMap D := by
    obtain ⟨es, clock, _, _, _, rfl⟩ := hD
    exact ⟨_, rfl⟩
  unfold upd
  by_cases e : y' = y
  · subst e
    rw [if_pos rfl]
    exact ⟨atKey_put_same hmap (K.isKey hy) _ _, has_put_same hmap (K.isKey hy) _⟩
  · have hne : K.kl y' ≠ K.kl y := fun h => e (K.same hy' hy h)
    rw [if_neg e, atKey_put_other hne, has_put_other hne]
    exact hf y' hy'
theorem wpList_getOkI {w : World} {ops : Array Oper} {rest : List Oper} {o : Oper} {a : Act} {Q : Exit → Act → World → Prop} (K : KeyKind P k κ) {t : TypeId} (ht : P.underlying t = some (.map k e)) (he : P.underlying e = some (.int .i64)) (hz : ∀ w, (zeroValue e).run P w = .ok (.int .i64 0) w) (hg : o.guard = none)
    (m x : Operand) (hop : o.op = Op.lookup t m x true) (b n : Nat) (f : κ → Option Int) (hm : a.eval m = .map (some b)) (hown : MapI K e w b n f) (y : κ) (hy : K.good y) (hx : a.eval x = K.enc y)
    (h : wpList P ops Q rest (a.put o.dst (.tuple #[.int .i64 ((f y).getD 0), .bool (f y).isSome])) w) : wpList P ops Q (o :: rest) a w := by
  obtain ⟨D, hD, hf⟩ := hown
  obtain ⟨h1, h2⟩ := hf y hy
  refine wpList_lookup_own_ok_int w hg m x t hop k e .i64 K.keyed ht he (hz w) b n D hm hD _ (K.kl y) hx (K.key y hy) ?_
  intro c hc _
  rw [h1] at hc
  simp only [DataW.lit.injEq, Lit.int.injEq, true_and] at hc
  rw [h2, ← hc]
  exact h
theorem wpList_getI {w : World} {ops : Array Oper} {rest : List Oper} {o : Oper} {a : Act} {Q : Exit → Act → World → Prop} (K : KeyKind P k κ) {t : TypeId} (ht : P.underlying t = some (.map k e)) (he : P.underlying e = some (.int .i64)) (hz : ∀ w, (zeroValue e).run P w = .ok (.int .i64 0) w) (hg : o.guard = none)
    (m x : Operand) (hop : o.op = Op.lookup t m x false) (b n : Nat) (f : κ → Option Int) (hm : a.eval m = .map (some b)) (hown : MapI K e w b n f) (y : κ) (hy : K.good y) (hx : a.eval x = K.enc y)
    (h : wpList P ops Q rest (a.put o.dst (.int .i64 ((f y).getD 0))) w) : wpList P ops Q (o :: rest) a w := by
  obtain ⟨D, hD, hf⟩ := hown
  obtain ⟨h1, _⟩ := hf y hy
  refine wpList_lookup_own_int w hg m x t hop k e .i64 K.keyed ht he (hz w) b n D hm hD _ (K.kl y) hx (K.key y hy) ?_
  intro c hc _
  rw [h1] at hc
  simp only [DataW.lit.injEq, Lit.int.injEq, true_and] at hc
  rw [← hc]
  exact h
end

theorem keyOf_struct1 {P : Program} {k e : TypeId} {q : IntKind} {f : Field} (hu : P.underlying k = some (.struct #[f])) (hf : f.type = e) (ho : f.offset = 0) (hn : (f.name != "_") = true) (h1 : P.cellsOf k = 1) (h2 : P.cellsOf e = 1) (hkt : P.keyType k = true) (he : P.underlying e = some (.int q)) (hsz : ∃ m, P.types.size = m + 1) {a : Int} (wa : (Lit.int q a).wf = true) :
    keyOf P k (.agg #[.int q a]) = some (.string (keyBytes [.int q a])) := by
  obtain ⟨m, hm⟩ := hsz
  unfold keyOf
  simp only [hu]
  rw [if_pos (by simp [hkt, Value.formed, hu, h1]), hm]
  unfold Program.keyLits
  simp only [hu, Value.cells]
  rw [if_pos (by simp [h1, hn])]
  simp [hf, ho, h2, Program.keyLits, he, wa]
/-- Ints as keys. -/
def intKey {P : Program} {k : TypeId} (hu : P.underlying k = some (.int .i64)) : KeyKind P k Int where
  keyed := int_keyed hu
  enc n := .int .i64 n
  kl n := .int .i64 n
  good n := (Lit.int .i64 n).wf = true
  key _ h := keyOf_int_mk hu h
  inj _ _ h := by simpa using h
end Go.Proofs.Ytoofmofaimdhpaa

/- slices.IndexFunc: the place of the first that is so. -/
namespace Go.Proofs.Ytoofmofaimdhpaa
open Go.ChangeShapes Go.WideShapes Go.ChangeAt Go.RowKit
set_option maxRecDepth 100000

set_option maxHeartbeats 1000000 in
theorem indexFuncLea (xs : List Lease) (a : Option Addr) (n c : Nat) (fid : FuncId) (cap : Array Value) (p : Lease → Bool) (w : World) (hn : xs.length = n) (hl : n ≤ maxLen) (hr : LRow layLea w a xs)
    (hcf : ∀ (args : Array Value) (w : World), (callFunc fid args).run Try.prog w = .ok (.enter fid args) w)
    (hf : ∀ x ∈ xs, ∀ w', Below w.heap.size w w' → Calls Try.prog fid (#[(layLea).val x] ++ cap) w' fun e w'' => e = .returned (.bool (p x)) ∧ Below w'.heap.size w' w'') :
    Calls Try.prog 73 #[.slice a n c, .func (.func fid) #[] cap] w fun e w' => e = .returned (.int .i64 (idxL p xs)) ∧ Below w.heap.size w w' := by
  subst hn
  have hl2 := lt_maxLen hl
  have HI := Lib.hid (fun k (hk : k < xs.length) => idxL_some (p := p) hk)
  have HN := Lib.hid (idxL_none (p := p) (xs := xs))
  have HF := Lib.hid hf
  generalize idxL p xs = res at HI HN ⊢
  clear hf
  go_enter Try.func73, Try.ntmps73
  go_wp2
  go_loopw [8] (fun i wr => ∃ k : Nat, k ≤ xs.length ∧ i = .int .i64 k ∧ (∀ j (h : j < xs.length), j < k → p xs[j] = false) ∧ Below w.heap.size w wr) (fun i _ => xs.length - (intOf i).toNat)
  case atStart => exact ⟨0, by omega, rfl, by omega, Below.refl _ _⟩
  case round =>
    obtain ⟨k, hk, rfl, hno, hb⟩ := hrel
    have HNO := Lib.hid hno
    clear hno
    by_cases hlt : k < xs.length
    · obtain ⟨b, o, rfl, hcs⟩ := hr.range hlt
      have hrange := Lib.hid (hcs _ hb)
      have HF1 := Lib.hid (HF.out xs[k] (List.getElem_mem hlt) wr hb)
      clear hcs
      cases hp : p xs[k] with
      | true =>
        go_wp2_with (first
          | (refine wpList_load_lay layLea rfl _ rfl b (o + k * (layLea).size) rfl _ hrange.out ?_)
          | (refine HF1.out.mono ?_; rw [hp]; rintro e w2 ⟨rfl, hb2⟩))
        go_returns
        exact ⟨ret_int (HI.out k hlt HNO.out hp).symm, hb.trans (hb2.mono hb.size)⟩
      | false =>
        go_wp2_with (first
          | (refine wpList_load_lay layLea rfl _ rfl b (o + k * (layLea).size) rfl _ hrange.out ?_)
          | (refine HF1.out.mono ?_; rw [hp]; rintro e w2 ⟨rfl, hb2⟩))
        go_roundw
        case rel => exact ⟨k + 1, by omega, by go_num, fun j h hj => by rcases Nat.lt_succ_iff_lt_or_eq.1 hj with h1 | rfl; exact HNO.out j h h1; exact hp, hb.trans (hb2.mono hb.size)⟩
        case measure => simp [intOf]; omega
    · go_wp2
      go_returns
      exact ⟨ret_int (HN.out fun j h => HNO.out j h (by omega)).symm, hb⟩
end Go.Proofs.Ytoofmofaimdhpaa

/- slices.Clone: the same things in a row that may be written. -/
namespace Go.Proofs.Ytoofmofaimdhpaa
open Go.ChangeShapes Go.WideShapes Go.ChangeAt Go.RowKit
set_option maxRecDepth 100000

def RetOwnTen (w : World) (xs : List Tenant) (e : Ending) (w' : World) : Prop :=
  ∃ a c, e = .returned (.slice a xs.length c) ∧ Near w.heap.size none a ∧ Can w' w.heap.size 55 (layTen).size a xs.length c (xs.flatMap (layTen).cells) ∧
    (0 < xs.length → w'.ownsRow w.heap.size 55 (layTen).size (.slice a xs.length c) xs.length (xs.flatMap (layTen).cells)) ∧ (∀ b o s, a = some ⟨b, o, s⟩ → b < w'.heap.size) ∧ Below w.heap.size w w'

theorem cloneTen (xs : List Tenant) (a : Option Addr) (n c : Nat) (w : World) (hn : xs.length = n) (hby : n * (layTen).bytes ≤ 140737488355328) (hm : n ≤ maxLen) (hc : a = none → c = 0) (hnc : n ≤ c) (hr : LRow layTen w a xs) :
    Calls Try.prog 63 #[.slice a n c] w (RetOwnTen w xs) := by
  subst hn
  cases a with
  | none =>
    obtain rfl := hc rfl
    have h0 : xs.length = 0 := by omega
    obtain rfl : xs = [] := List.eq_nil_of_length_eq_zero h0
    go_enter Try.func63, Try.ntmps63
    have hnil := Lib.run_eql_slice_nil (P := Try.prog) w 22 55 none 0 0 0 0 Try.underlying22
    go_wp2
    go_returns
    exact ⟨none, 0, rfl, Near.nil _ _, Can.nil _ _ _ _, fun h => absurd h (by simp), fun _ _ _ h => (by cases h), Below.refl _ _⟩
  | some x =>
    have HR := Lib.hid hr
    clear hr
    go_enter Try.func63, Try.ntmps63
    have hnil := Lib.run_eql_slice_nil (P := Try.prog) w 22 55 (some x) xs.length c 0 0 Try.underlying22
    go_wp2_with (at_builtin; refine wpList_can ((layTen).elem Try.underlying22) rfl _ _ rfl w.heap.size _ 0 _ _ rfl (Can.empty _ _ _ _ _) _ xs.length _ (xs.flatMap (layTen).cells) rfl ((layTen).length _) (Row.alloc HR.out _) ((layTen).ones _) (by rw [Nat.zero_add]; exact hby) (by simp) ?_; intro a' c' w3 hcan3 _ hb3 hown)
    go_returns
    rw [Nat.zero_add, List.nil_append] at hcan3 hown
    have hnear : Near w.heap.size none a' := by
      by_cases h0 : 0 < xs.length
      · exact Near.own (hown.1 h0) (Nat.le_refl _)
      · rw [(hown.2 (by omega)).1]
        intro b o s hb
        simp at hb
        exact .inl (by omega)
    have hblt : ∀ b o s, a' = some ⟨b, o, s⟩ → b < w3.heap.size := fun b o s hab => by
      by_cases h0 : 0 < xs.length
      · exact ((hown.1 h0).lt b (by rw [hab]; rfl)).2
      · have h1 := hb3.size
        rw [(hown.2 (by omega)).1] at hab
        simp at hab h1
        omega
    exact ⟨a', c', rfl, hnear, hcan3, fun h => hown.1 h, hblt, ((Below.refl _ _).alloc (Nat.le_refl _) _).trans hb3⟩
end Go.Proofs.Ytoofmofaimdhpaa

/- slices.Clone: the same things in a row that may be written. -/
namespace Go.Proofs.Ytoofmofaimdhpaa
open Go.ChangeShapes Go.WideShapes Go.ChangeAt Go.RowKit
set_option maxRecDepth 100000

def RetOwnLea (w : World) (xs : List Lease) (e : Ending) (w' : World) : Prop :=
  ∃ a c, e = .returned (.slice a xs.length c) ∧ Near w.heap.size none a ∧ Can w' w.heap.size 38 (layLea).size a xs.length c (xs.flatMap (layLea).cells) ∧
    (0 < xs.length → w'.ownsRow w.heap.size 38 (layLea).size (.slice a xs.length c) xs.length (xs.flatMap (layLea).cells)) ∧ (∀ b o s, a = some ⟨b, o, s⟩ → b < w'.heap.size) ∧ Below w.heap.size w w'

theorem cloneLea (xs : List Lease) (a : Option Addr) (n c : Nat) (w : World) (hn : xs.length = n) (hby : n * (layLea).bytes ≤ 140737488355328) (hm : n ≤ maxLen) (hc : a = none → c = 0) (hnc : n ≤ c) (hr : LRow layLea w a xs) :
    Calls Try.prog 64 #[.slice a n c] w (RetOwnLea w xs) := by
  subst hn
  cases a with
  | none =>
    obtain rfl := hc rfl
    have h0 : xs.length = 0 := by omega
    obtain rfl : xs = [] := List.eq_nil_of_length_eq_zero h0
    go_enter Try.func64, Try.ntmps64
    have hnil := Lib.run_eql_slice_nil (P := Try.prog) w 23 38 none 0 0 0 0 Try.underlying23
    go_wp2
    go_returns
    exact ⟨none, 0, rfl, Near.nil _ _, Can.nil _ _ _ _, fun h => absurd h (by simp), fun _ _ _ h => (by cases h), Below.refl _ _⟩
  | some x =>
    have HR := Lib.hid hr
    clear hr
    go_enter Try.func64, Try.ntmps64
    have hnil := Lib.run_eql_slice_nil (P := Try.prog) w 23 38 (some x) xs.length c 0 0 Try.underlying23
    go_wp2_with (at_builtin; refine wpList_can ((layLea).elem Try.underlying23) rfl _ _ rfl w.heap.size _ 0 _ _ rfl (Can.empty _ _ _ _ _) _ xs.length _ (xs.flatMap (layLea).cells) rfl ((layLea).length _) (Row.alloc HR.out _) ((layLea).ones _) (by rw [Nat.zero_add]; exact hby) (by simp) ?_; intro a' c' w3 hcan3 _ hb3 hown)
    go_returns
    rw [Nat.zero_add, List.nil_append] at hcan3 hown
    have hnear : Near w.heap.size none a' := by
      by_cases h0 : 0 < xs.length
      · exact Near.own (hown.1 h0) (Nat.le_refl _)
      · rw [(hown.2 (by omega)).1]
        intro b o s hb
        simp at hb
        exact .inl (by omega)
    have hblt : ∀ b o s, a' = some ⟨b, o, s⟩ → b < w3.heap.size := fun b o s hab => by
      by_cases h0 : 0 < xs.length
      · exact ((hown.1 h0).lt b (by rw [hab]; rfl)).2
      · have h1 := hb3.size
        rw [(hown.2 (by omega)).1] at hab
        simp at hab h1
        omega
    exact ⟨a', c', rfl, hnear, hcan3, fun h => hown.1 h, hblt, ((Below.refl _ _).alloc (Nat.le_refl _) _).trans hb3⟩
end Go.Proofs.Ytoofmofaimdhpaa

/- slices.Clone: the same things in a row that may be written. -/
namespace Go.Proofs.Ytoofmofaimdhpaa
open Go.ChangeShapes Go.WideShapes Go.ChangeAt Go.RowKit
set_option maxRecDepth 100000

def RetOwnSes (w : World) (xs : List Session) (e : Ending) (w' : World) : Prop :=
  ∃ a c, e = .returned (.slice a xs.length c) ∧ Near w.heap.size none a ∧ Can w' w.heap.size 70 (laySes).size a xs.length c (xs.flatMap (laySes).cells) ∧
    (0 < xs.length → w'.ownsRow w.heap.size 70 (laySes).size (.slice a xs.length c) xs.length (xs.flatMap (laySes).cells)) ∧ (∀ b o s, a = some ⟨b, o, s⟩ → b < w'.heap.size) ∧ Below w.heap.size w w'

theorem cloneSes (xs : List Session) (a : Option Addr) (n c : Nat) (w : World) (hn : xs.length = n) (hby : n * (laySes).bytes ≤ 140737488355328) (hm : n ≤ maxLen) (hc : a = none → c = 0) (hnc : n ≤ c) (hr : LRow laySes w a xs) :
    Calls Try.prog 65 #[.slice a n c] w (RetOwnSes w xs) := by
  subst hn
  cases a with
  | none =>
    obtain rfl := hc rfl
    have h0 : xs.length = 0 := by omega
    obtain rfl : xs = [] := List.eq_nil_of_length_eq_zero h0
    go_enter Try.func65, Try.ntmps65
    have hnil := Lib.run_eql_slice_nil (P := Try.prog) w 24 70 none 0 0 0 0 Try.underlying24
    go_wp2
    go_returns
    exact ⟨none, 0, rfl, Near.nil _ _, Can.nil _ _ _ _, fun h => absurd h (by simp), fun _ _ _ h => (by cases h), Below.refl _ _⟩
  | some x =>
    have HR := Lib.hid hr
    clear hr
    go_enter Try.func65, Try.ntmps65
    have hnil := Lib.run_eql_slice_nil (P := Try.prog) w 24 70 (some x) xs.length c 0 0 Try.underlying24
    go_wp2_with (at_builtin; refine wpList_can ((laySes).elem Try.underlying24) rfl _ _ rfl w.heap.size _ 0 _ _ rfl (Can.empty _ _ _ _ _) _ xs.length _ (xs.flatMap (laySes).cells) rfl ((laySes).length _) (Row.alloc HR.out _) ((laySes).ones _) (by rw [Nat.zero_add]; exact hby) (by simp) ?_; intro a' c' w3 hcan3 _ hb3 hown)
    go_returns
    rw [Nat.zero_add, List.nil_append] at hcan3 hown
    have hnear : Near w.heap.size none a' := by
      by_cases h0 : 0 < xs.length
      · exact Near.own (hown.1 h0) (Nat.le_refl _)
      · rw [(hown.2 (by omega)).1]
        intro b o s hb
        simp at hb
        exact .inl (by omega)
    have hblt : ∀ b o s, a' = some ⟨b, o, s⟩ → b < w3.heap.size := fun b o s hab => by
      by_cases h0 : 0 < xs.length
      · exact ((hown.1 h0).lt b (by rw [hab]; rfl)).2
      · have h1 := hb3.size
        rw [(hown.2 (by omega)).1] at hab
        simp at hab h1
        omega
    exact ⟨a', c', rfl, hnear, hcan3, fun h => hown.1 h, hblt, ((Below.refl _ _).alloc (Nat.le_refl _) _).trans hb3⟩
end Go.Proofs.Ytoofmofaimdhpaa

/- slices.Clone: the same things in a row that may be written. -/
namespace Go.Proofs.Ytoofmofaimdhpaa
open Go.ChangeShapes Go.WideShapes Go.ChangeAt Go.RowKit
set_option maxRecDepth 100000

def RetOwnDsk (w : World) (xs : List Desk) (e : Ending) (w' : World) : Prop :=
  ∃ a c, e = .returned (.slice a xs.length c) ∧ Near w.heap.size none a ∧ Can w' w.heap.size 72 (layDsk).size a xs.length c (xs.flatMap (layDsk).cells) ∧
    (0 < xs.length → w'.ownsRow w.heap.size 72 (layDsk).size (.slice a xs.length c) xs.length (xs.flatMap (layDsk).cells)) ∧ (∀ b o s, a = some ⟨b, o, s⟩ → b < w'.heap.size) ∧ Below w.heap.size w w'

theorem cloneDsk (xs : List Desk) (a : Option Addr) (n c : Nat) (w : World) (hn : xs.length = n) (hby : n * (layDsk).bytes ≤ 140737488355328) (hm : n ≤ maxLen) (hc : a = none → c = 0) (hnc : n ≤ c) (hr : LRow layDsk w a xs) :
    Calls Try.prog 66 #[.slice a n c] w (RetOwnDsk w xs) := by
  subst hn
  cases a with
  | none =>
    obtain rfl := hc rfl
    have h0 : xs.length = 0 := by omega
    obtain rfl : xs = [] := List.eq_nil_of_length_eq_zero h0
    go_enter Try.func66, Try.ntmps66
    have hnil := Lib.run_eql_slice_nil (P := Try.prog) w 25 72 none 0 0 0 0 Try.underlying25
    go_wp2
    go_returns
    exact ⟨none, 0, rfl, Near.nil _ _, Can.nil _ _ _ _, fun h => absurd h (by simp), fun _ _ _ h => (by cases h), Below.refl _ _⟩
  | some x =>
    have HR := Lib.hid hr
    clear hr
    go_enter Try.func66, Try.ntmps66
    have hnil := Lib.run_eql_slice_nil (P := Try.prog) w 25 72 (some x) xs.length c 0 0 Try.underlying25
    go_wp2_with (at_builtin; refine wpList_can ((layDsk).elem Try.underlying25) rfl _ _ rfl w.heap.size _ 0 _ _ rfl (Can.empty _ _ _ _ _) _ xs.length _ (xs.flatMap (layDsk).cells) rfl ((layDsk).length _) (Row.alloc HR.out _) ((layDsk).ones _) (by rw [Nat.zero_add]; exact hby) (by simp) ?_; intro a' c' w3 hcan3 _ hb3 hown)
    go_returns
    rw [Nat.zero_add, List.nil_append] at hcan3 hown
    have hnear : Near w.heap.size none a' := by
      by_cases h0 : 0 < xs.length
      · exact Near.own (hown.1 h0) (Nat.le_refl _)
      · rw [(hown.2 (by omega)).1]
        intro b o s hb
        simp at hb
        exact .inl (by omega)
    have hblt : ∀ b o s, a' = some ⟨b, o, s⟩ → b < w3.heap.size := fun b o s hab => by
      by_cases h0 : 0 < xs.length
      · exact ((hown.1 h0).lt b (by rw [hab]; rfl)).2
      · have h1 := hb3.size
        rw [(hown.2 (by omega)).1] at hab
        simp at hab h1
        omega
    exact ⟨a', c', rfl, hnear, hcan3, fun h => hown.1 h, hblt, ((Below.refl _ _).alloc (Nat.le_refl _) _).trans hb3⟩
end Go.Proofs.Ytoofmofaimdhpaa

namespace Go.Proofs.Ytoofmofaimdhpaa
open Go.ChangeShapes Go.WideShapes Go.ChangeAt Go.RowKit
set_option maxRecDepth 100000

theorem m64_mask (a : Nat) (ha : a < 18446744073709551616) : bits .and .u64 (a : Int) 4294967295 = ((a % 4294967296 : Nat) : Int) := by
  have h := bits_and_u64_nat a 4294967295 ha (by omega)
  rw [show a &&& 4294967295 = a % 4294967296 from Nat.and_two_pow_sub_one_eq_mod a 32] at h
  exact h
theorem m64_div (a : Nat) : (a : Int) / 4294967296 = ((a / 4294967296 : Nat) : Int) := by omega
theorem m64_mul (a b : Nat) : (a : Int) * (b : Int) = ((a * b : Nat) : Int) := (Int.natCast_mul a b).symm
theorem m64_add (a b : Nat) : (a : Int) + (b : Int) = ((a + b : Nat) : Int) := (Int.natCast_add a b).symm
theorem m64_wrap (a : Nat) (ha : a < 18446744073709551616) : IntKind.u64.wrap (a : Int) = (a : Int) := by rw [IntKind.wrap_u64]; omega
theorem m64_wrapM (a : Nat) : IntKind.u64.wrap (a : Int) = ((a % 18446744073709551616 : Nat) : Int) := by rw [IntKind.wrap_u64]; omega

set_option maxHeartbeats 1000000 in
theorem mul64_any (x y : Nat) (hx : x < 18446744073709551616) (hy : y < 18446744073709551616) (w : World) :
    Calls Try.prog 101 #[.int .u64 x, .int .u64 y] w fun e w' => e = .returned (.tuple #[.int .u64 ((x * y / 18446744073709551616 : Nat) : Int), .int .u64 ((x * y % 18446744073709551616 : Nat) : Int)]) ∧ w = w' := by
  obtain ⟨bd, bt, bw, hhi⟩ := Lib.mul64_hi x y hx hy
  have ba := Lib.half_mul_le (a := x / 4294967296) (b := y / 4294967296) (by omega) (by omega)
  have bb := Lib.half_mul_le (a := x / 4294967296) (b := y % 4294967296) (by omega) (by omega)
  have bc := Lib.half_mul_le (a := x % 4294967296) (b := y / 4294967296) (by omega) (by omega)
  have ba' : x / 4294967296 * (y / 4294967296) < 18446744073709551616 := by omega
  have bb' : x / 4294967296 * (y % 4294967296) < 18446744073709551616 := by omega
  have bc' : x % 4294967296 * (y / 4294967296) < 18446744073709551616 := by omega
  have bh1 : x / 4294967296 * (y / 4294967296) + (x / 4294967296 * (y % 4294967296) + x % 4294967296 * (y % 4294967296) / 4294967296) / 4294967296 < 18446744073709551616 := by omega
  have bh : x / 4294967296 * (y / 4294967296) + (x / 4294967296 * (y % 4294967296) + x % 4294967296 * (y % 4294967296) / 4294967296) / 4294967296 + ((x / 4294967296 * (y % 4294967296) + x % 4294967296 * (y % 4294967296) / 4294967296) % 4294967296 + x % 4294967296 * (y / 4294967296)) / 4294967296 < 18446744073709551616 := by omega
  go_enter Try.func101, Try.ntmps101
  go_wp2
  simp only [m64_mask x hx, m64_mask y hy, m64_div, m64_mul, m64_add, m64_wrap _ bd, m64_wrap _ bb', m64_wrap _ bt, m64_mask _ bt, m64_wrap _ bc', m64_wrap _ bw, m64_wrap _ ba', m64_wrap _ bh1, m64_wrap _ bh, m64_wrapM (x * y)]
  rw [hhi]
  go_ret2
  exact ⟨rfl, rfl⟩
end Go.Proofs.Ytoofmofaimdhpaa
