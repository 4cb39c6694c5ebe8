import Derived.Test.YtkboojpkkhiceaaDoorRows
import Derived.WalkKit
import Derived.ProofKit
import Derived.Outline
import Derived.OpenShut
import Derived.ShutString
import Derived.ChangeOld
import Derived.Below
import Derived.Handy
import Derived.BigQuiet
import Derived.Deep.QuietTactic
import Derived.Deep.DeepFit
import Derived.StillTailTactics
import Derived.Deep.RegionWith
import Derived.ArgAppend
import Derived.Lib.Hide
import Derived.Lib.SlBytesConst
import Derived.Deep.Slices
import Derived.Carry
import Derived.SizedLaws
import Derived.Deep.MidRow
import Derived.Laws.Externs
import Derived.Lib.Overlaps
import Derived.Lib.AppendZerosOnto
import Derived.Maps.OwnOps
import Derived.Maps.OwnSet
import Derived.WideKeyPair
import Derived.DeepKeys4
import Derived.Deep.RegionHeld3
import Derived.Deep.RegionLaw
import Derived.WalkSpells
import Derived.Laws.BitsLemmas
import Derived.WalkLawsBesides
import Derived.Deep.DeepAppendRoom
set_option linter.unusedVariables false
set_option linter.unusedSimpArgs false
/- What all the walks of this seat lean on: bytes and rows of cells in memory. -/
namespace Go.Proofs.YtkboojpkkhiceaaDoor
open Go.ChangeShapes Go.WideShapes Go.ChangeAt Go.RowKit
set_option maxRecDepth 100000

theorem ret_int {k : IntKind} {a b : Int} (h : a = b) : Ending.returned (.int k a) = .returned (.int k b) := by rw [h]
theorem val_int {k : IntKind} {a b : Int} (h : a = b) : Value.int k a = .int k b := by rw [h]
theorem ret_bool {a b : Bool} (h : a = b) : Ending.returned (.bool a) = .returned (.bool b) := by rw [h]
/-- A byte as a value. -/
abbrev B (x : UInt8) : Value := .int .u8 (x.toNat : Int)
/-- From the address on, the memory reads as these cells. -/
def Row (w : World) (a : Option Addr) (xs : List Value) : Prop :=
  xs = [] ∨ ∃ b o, a = some ⟨b, o, none⟩ ∧ ∀ i (h : i < xs.length), w.cell? ⟨b, o + i, none⟩ = some xs[i]
abbrev RowB (w : World) (a : Option Addr) (l : List UInt8) : Prop := Row w a (l.map B)

theorem Row.nil (w : World) (a : Option Addr) : Row w a [] := .inl rfl
theorem Row.at {w : World} {a : Option Addr} {xs : List Value} (h : Row w a xs) {k : Nat} (hk : k < xs.length) :
    ∃ b o, a = some ⟨b, o, none⟩ ∧ ∀ i (h : i < xs.length), w.cell? ⟨b, o + i, none⟩ = some xs[i] := by
  rcases h with rfl | h
  · simp at hk
  · exact h
theorem RowB.at {w : World} {a : Option Addr} {l : List UInt8} (h : RowB w a l) {k : Nat} (hk : k < l.length) :
    ∃ b o, a = some ⟨b, o, none⟩ ∧ ∀ i (h : i < l.length), w.cell? ⟨b, o + i, none⟩ = some (.int .u8 (l[i].toNat : Int)) := by
  obtain ⟨b, o, ha, hc⟩ := Row.at h (k := k) (by simpa using hk)
  exact ⟨b, o, ha, fun i hi => by have := hc i (by simpa using hi); rw [List.getElem_map] at this; exact this⟩

theorem maxLen_eq : maxLen = 9223372036854775807 := by decide
theorem le_maxLen {n : Nat} (h : n ≤ 1048576) : n ≤ maxLen := Nat.le_trans h (by decide)
theorem lt_maxLen {n : Nat} (h : n ≤ maxLen) : n ≤ 9223372036854775807 := maxLen_eq ▸ h

/-- What the table says of a slice type and its elements. -/
structure Elem (P : Program) (t e : TypeId) (size bytes : Nat) : Prop where
  under : P.underlying t = some (.slice e)
  info : ∃ i z, P.info? e = some i ∧ i.zero = some z ∧ i.size = size ∧ i.bytes = bytes ∧ z.cells.size = size
  pos : 0 < size
  bpos : 0 < bytes

theorem run_firstCells_nil {P : Program} (w : World) (size n c : Nat) : (Builtin.firstCells size 0 (.slice none n c)).run P w = .ok #[] w := by
  simp [Builtin.firstCells]

theorem run_append_nil {P : Program} {w : World} (base : Nat) (t ty e : TypeId) (i : TypeInfo) (size : Nat) (ht : P.underlying t = some (.slice e)) (hi : P.info? e = some i)
    (v : Value) (n c : Nat) (xs : List Value) (hown : w.ownsRow base e size v n xs) :
    (Builtin.append_ #[t, t] ty #[v, .slice none 0 c]).run P w = .ok v w := by
  rcases hown.2 with ⟨rfl, rfl⟩ | ⟨g, cap, cur, rfl, _, _, hnc, _⟩
  · simp [Builtin.append_, run_underlying ht, sizeOf, typeInfo, hi, Builtin.lenOf, Builtin.firstCells]
  · simp [Builtin.append_, run_underlying ht, sizeOf, typeInfo, hi, Builtin.lenOf, Builtin.firstCells, hnc, storeCells]

theorem own_slice {w : World} {base : Nat} {e : TypeId} {size : Nat} {v : Value} {n : Nat} {xs : List Value} (h : w.ownsRow base e size v n xs) :
    ∃ a c, v = .slice a n c ∧ n ≤ c ∧ c ≤ maxLen ∧ (a = none → c = 0) := by
  rcases h.2 with ⟨rfl, rfl⟩ | ⟨g, cap, cur, rfl, _, _, hnc, hm, _⟩
  · exact ⟨none, 0, rfl, Nat.le_refl _, Nat.zero_le _, fun _ => rfl⟩
  · exact ⟨_, cap, rfl, hnc, hm, fun h => by simp at h⟩

theorem own_row {w : World} {base : Nat} {e : TypeId} {size : Nat} {a : Option Addr} {n c : Nat} {xs : List Value} (h : w.ownsRow base e size (.slice a n c) n xs) : Row w a xs := by
  obtain ⟨hl, h⟩ := h
  rcases h with ⟨hv, rfl⟩ | ⟨g, cap, cur, hv, _, hg, hnc, hm, hs, ht⟩
  · exact .inl (List.eq_nil_of_length_eq_zero (by simpa using hl))
  · simp only [Value.slice.injEq] at hv
    obtain ⟨rfl, _, rfl⟩ := hv
    refine .inr ⟨g, 0, rfl, fun i hi => ?_⟩
    subst ht
    have hi2 : i < n * size := by simp at hi; omega
    have h2 : n * size ≤ cur.size := by rw [hs]; exact Nat.mul_le_mul_right _ hnc
    simp only [World.cell?, hg, Nat.zero_add, Option.isSome_none, Bool.false_eq_true, if_false]
    rw [Array.getElem?_eq_getElem (by omega)]
    simp

theorem wpList_app {P : Program} {w : World} {ops : Array Oper} {rest : List Oper} {o : Oper} {a : Act} {Q : Exit → Act → World → Prop} {t e : TypeId} {size bytes : Nat} (el : Elem P t e size bytes) (hgd : o.guard = none) (s x : Operand)
    (ho : o.op = .call { callee := .builtin .append, args := #[s, x], argTypes := #[t, t] })
    (base : Nat) (v : Value) (n : Nat) (xs : List Value) (hs : a.eval s = v) (hown : w.ownsRow base e size v n xs)
    (ad : Option Addr) (m c : Nat) (news : List Value) (hx : a.eval x = .slice ad m c) (hl : news.length = m * size) (hr : Row w ad news) (h1 : ∀ u ∈ news, u.oneCell' = true)
    (hbytes : (n + m) * bytes ≤ 140737488355328) (hbase : base ≤ w.heap.size)
    (h : ∀ a' c' w', w'.ownsRow base e size (.slice a' (n + m) c') (n + m) (xs ++ news) → w.grownBy w' v.ownBlock → wpList P ops Q rest (a.put o.dst (.slice a' (n + m) c')) w') : wpList P ops Q (o :: rest) a w := by
  obtain ⟨i, z, hi, hz, hsize, hby, hzs⟩ := el.info
  have hb := el.bpos
  have h63 : n + m ≤ maxLen := by
    have : n + m ≤ (n + m) * bytes := Nat.le_mul_of_pos_right _ hb
    unfold maxLen; omega
  cases ad with
  | some ad =>
    refine wpList_append_own w hgd s x t ho base e i z size bytes el.under hi hz hsize hby hzs el.pos v n xs hs hown ad m c news hx hl ?_ h1 h63 hbytes hbase ?_
    · intro j u hj
      rcases hr with rfl | ⟨b, o, ha, hc⟩
      · simp at hj
      · simp only [Option.some.injEq] at ha
        subst ha
        obtain ⟨hj1, rfl⟩ := List.getElem?_eq_some_iff.1 hj
        have := hc j hj1
        by_cases h0 : j = 0
        · subst h0; simpa [Addr.add] using this
        · simpa [Addr.add, h0] using this
    · intro v' w' ho' hg' _
      obtain ⟨a', c', rfl, _⟩ := own_slice ho'
      exact h a' c' w' ho' hg'
  | none =>
    rcases hr with rfl | ⟨b, o, ha, hc⟩
    · have hm : m = 0 := by
        have hp := el.pos
        rcases Nat.eq_zero_or_pos m with h | h
        · exact h
        · have := Nat.mul_pos h hp
          simp at hl
          omega
      subst hm
      refine wpList_plain hgd fun K hK => ?_
      unfold Oper.wp execOp
      have hrun2 := run_append_nil (P := P) (w := w) base t o.type e i size el.under hi v n c xs hown
      simp only [ho, resolve, invoke, builtin, Sem.run_bind, Sem.run_pure, Result.andThen_ok, List.map_toArray, List.map_cons, List.map_nil, hs, hx, hrun2]
      obtain ⟨a', c', rfl, _⟩ := own_slice hown
      refine hK _ _ (h a' c' w ?_ ⟨rfl, rfl, rfl, Nat.le_refl _, fun _ _ _ => rfl⟩)
      rw [Nat.add_zero, List.append_nil]
      exact hown
    · simp at ha

theorem Row.lt {w : World} {b o : Nat} {xs : List Value} (h : Row w (some ⟨b, o, none⟩) xs) (h0 : xs ≠ []) : b < w.heap.size := by
  rcases h with h | ⟨b', o', ha, hc⟩
  · exact absurd h h0
  · simp at ha
    obtain ⟨rfl, rfl⟩ := ha
    exact World.block_lt_of_cell? w _ (hc 0 (List.length_pos_iff.2 h0))
theorem Row.get {w : World} {a : Option Addr} {xs : List Value} {k : Nat} {x : Value} (h : Row w a xs) (hk : xs[k]? = some x) :
    ∃ b o, a = some ⟨b, o, none⟩ ∧ w.cell? ⟨b, o + k, none⟩ = some x := by
  obtain ⟨hlt, rfl⟩ := List.getElem?_eq_some_iff.1 hk
  obtain ⟨b, o, rfl, hc⟩ := h.at hlt
  exact ⟨b, o, rfl, hc k hlt⟩
/-- What is read stays where no old block has turned. -/
theorem Row.below {w w' : World} {a : Option Addr} {xs : List Value} (h : Row w a xs) (hb : Below w.heap.size w w') : Row w' a xs := by
  by_cases h0 : xs = []
  · exact .inl h0
  · rcases h with h | ⟨b, o, rfl, hc⟩
    · exact absurd h h0
    · have hlt := Row.lt (.inr ⟨b, o, rfl, hc⟩) h0
      exact .inr ⟨b, o, rfl, fun i hi => (hb.cell (p := ⟨b, o + i, none⟩) hlt).trans (hc i hi)⟩
theorem Row.alloc {w : World} {a : Option Addr} {xs : List Value} (h : Row w a xs) (o : Obj) : Row (w.alloc o) a xs := h.below ((Below.refl _ _).alloc (Nat.le_refl _) o)
theorem Row.drew {w : World} {a : Option Addr} {xs : List Value} (h : Row w a xs) : Row w.drew a xs := h
/-- A row of cells known whole. -/
theorem Row.of_block {w : World} {g : Nat} {cs : Array Value} {e : TypeId} {f : Nat × Nat} (h : w.heap[g]? = some (.cells cs e f)) : Row w (some ⟨g, 0, none⟩) cs.toList := by
  refine .inr ⟨g, 0, rfl, fun i hi => ?_⟩
  simp only [World.cell?, h, Nat.zero_add, Option.isSome_none, Bool.false_eq_true, if_false]
  rw [Array.getElem?_eq_getElem (by simpa using hi)]
  simp
theorem Row.new (w : World) (cs : Array Value) (e : TypeId) (f : Nat × Nat) : Row (w.alloc (.cells cs e f)) (some ⟨w.heap.size, 0, none⟩) cs.toList := Row.of_block (heap_alloc_new w _)
theorem Row.setFar {w : World} {g : Nat} {xs : List Value} (h : Row w (some ⟨g, 0, none⟩) xs) {p : Addr} (hp : p.block ≠ g) (v : Value) : Row (w.setCell p v) (some ⟨g, 0, none⟩) xs := by
  rcases h with h | ⟨b, o, ha, hc⟩
  · exact .inl h
  · simp only [Option.some.injEq, Addr.mk.injEq, and_true] at ha
    obtain ⟨rfl, rfl⟩ := ha
    exact .inr ⟨g, 0, rfl, fun i hi => (World.cell?_setCell_other w p _ v (fun e => hp (congrArg Addr.block e))).trans (hc i hi)⟩
theorem Row.take {w : World} {a : Option Addr} {xs : List Value} (h : Row w a xs) (j : Nat) : Row w a (xs.take j) := by
  rcases h with rfl | ⟨b, o, ha, hc⟩
  · exact .inl (by simp)
  · exact .inr ⟨b, o, ha, fun i hi => by
      have hi2 : i < xs.length := by simp at hi; omega
      rw [hc i hi2]; simp⟩
theorem Row.drop {w : World} {b o : Nat} {xs : List Value} (h : Row w (some ⟨b, o, none⟩) xs) (j : Nat) : Row w (some ⟨b, o + j, none⟩) (xs.drop j) := by
  rcases h with rfl | ⟨b', o', ha, hc⟩
  · exact .inl (by simp)
  · simp only [Option.some.injEq, Addr.mk.injEq, and_true] at ha
    obtain ⟨rfl, rfl⟩ := ha
    exact .inr ⟨b, o + j, rfl, fun i hi => by
      have hi2 : j + i < xs.length := by simp at hi; omega
      have := hc (j + i) hi2
      rw [Nat.add_assoc, this]; simp⟩
theorem Row.getBelow {w : World} {a : Option Addr} {xs : List Value} {k : Nat} {x : Value} (h : Row w a xs) (hk : xs[k]? = some x) :
    ∃ b o, a = some ⟨b, o, none⟩ ∧ ∀ w', Below w.heap.size w w' → w'.cell? ⟨b, o + k, none⟩ = some x := by
  obtain ⟨b, o, rfl, hc⟩ := h.get hk
  exact ⟨b, o, rfl, fun w' hb => (hb.cell (p := ⟨b, o + k, none⟩) (World.block_lt_of_cell? w _ hc)).trans hc⟩
theorem Below.app {B0 : Nat} {w0 w w' : World} {e : TypeId} {size n : Nat} {v : Value} {xs : List Value} (h : Below B0 w0 w) (hown : w.ownsRow B0 e size v n xs) (hg : w.grownBy w' v.ownBlock) (hB : B0 ≤ w.heap.size) : Below B0 w0 w' :=
  h.grown hg hB fun k hk => (hown.lt k hk).1
theorem flatMap_at {α : Type} {cells : α → List Value} {size : Nat} (hs : ∀ x, (cells x).length = size) : ∀ {xs : List α} {i r : Nat}, r < size → (xs.flatMap cells)[i * size + r]? = (xs[i]?).bind fun x => (cells x)[r]?
  | [], i, r, _ => by simp
  | x :: xs, 0, r, hr => by
    simp only [List.flatMap_cons, Nat.zero_mul, Nat.zero_add, List.getElem?_cons_zero, Option.bind_some]
    rw [List.getElem?_append_left (by rw [hs]; exact hr)]
  | x :: xs, i + 1, r, hr => by
    simp only [List.flatMap_cons, List.getElem?_cons_succ]
    rw [List.getElem?_append_right (by rw [hs, Nat.succ_mul]; omega), hs, Nat.succ_mul, show i * size + size + r - size = i * size + r from by omega]
    exact flatMap_at hs hr
theorem flatMap_one {α β : Type} (f : α → β) (xs : List α) : xs.flatMap (fun x => [f x]) = xs.map f := by
  induction xs with
  | nil => rfl
  | cons x xs ih => rw [List.flatMap_cons, ih]; rfl
theorem flatMap_len {α : Type} {cells : α → List Value} {size : Nat} (hs : ∀ x, (cells x).length = size) (xs : List α) : (xs.flatMap cells).length = xs.length * size := by
  induction xs with
  | nil => simp
  | cons x xs ih => rw [List.flatMap_cons, List.length_append, ih, hs, List.length_cons, Nat.succ_mul]; omega

theorem Row.holds {w : World} {ad : Addr} {xs : List Value} (h : Row w (some ad) xs) : ∀ j u, xs[j]? = some u → w.cell? (ad.add j) = some u := by
  intro j u hj
  rcases h with rfl | ⟨b, o, ha, hc⟩
  · simp at hj
  · simp only [Option.some.injEq] at ha
    subst ha
    obtain ⟨hj1, rfl⟩ := List.getElem?_eq_some_iff.1 hj
    have := hc j hj1
    by_cases h0 : j = 0
    · subst h0; simpa [Addr.add] using this
    · simpa [Addr.add, h0] using this

/-- A slice that may be appended to: it is full (so an append makes a new row), or it is a row of the call's own, from block B on. -/
def Can (w : World) (B : Nat) (e : TypeId) (size : Nat) (a : Option Addr) (n c : Nat) (xs : List Value) : Prop :=
  xs.length = n * size ∧ n ≤ maxLen ∧ ((n = c ∧ Row w a xs) ∨ w.ownsRow B e size (.slice a n c) n xs)

theorem Can.nil (w : World) (B : Nat) (e : TypeId) (size : Nat) : Can w B e size none 0 0 [] := ⟨by simp, Nat.zero_le _, .inl ⟨rfl, .inl rfl⟩⟩
theorem Can.empty (w : World) (B : Nat) (e : TypeId) (size : Nat) (a : Option Addr) : Can w B e size a 0 0 [] := ⟨by simp, Nat.zero_le _, .inl ⟨rfl, .inl rfl⟩⟩
theorem Can.full {w : World} {B : Nat} {e : TypeId} {size : Nat} {a : Option Addr} {n : Nat} {xs : List Value} (h : Row w a xs) (hl : xs.length = n * size) (hn : n ≤ maxLen) : Can w B e size a n n xs := ⟨hl, hn, .inl ⟨rfl, h⟩⟩
theorem Can.row {w : World} {B : Nat} {e : TypeId} {size : Nat} {a : Option Addr} {n c : Nat} {xs : List Value} (h : Can w B e size a n c xs) : Row w a xs := by
  rcases h.2.2 with ⟨_, h⟩ | h
  · exact h
  · exact own_row h
theorem Can.le {w : World} {B : Nat} {e : TypeId} {size : Nat} {a : Option Addr} {n c : Nat} {xs : List Value} (h : Can w B e size a n c xs) : n ≤ c := by
  rcases h.2.2 with ⟨h, _⟩ | h
  · omega
  · obtain ⟨a', c', hv, hl, _⟩ := own_slice h
    simp only [Value.slice.injEq] at hv
    omega
theorem Can.none {w : World} {B : Nat} {e : TypeId} {size : Nat} {a : Option Addr} {n c : Nat} {xs : List Value} (h : Can w B e size a n c xs) (hp : 0 < size) : a = none → c = 0 := by
  intro ha
  rcases h.2.2 with ⟨rfl, hr⟩ | h2
  · rcases hr with rfl | ⟨_, _, h3, _⟩
    · rcases Nat.eq_zero_or_pos n with h4 | h4
      · exact h4
      · have := Nat.mul_pos h4 hp
        have h0 := h.1
        simp at h0; omega
    · rw [ha] at h3; simp at h3
  · obtain ⟨a', c', hv, _, _, hc⟩ := own_slice h2
    simp only [Value.slice.injEq] at hv
    obtain ⟨rfl, _, rfl⟩ := hv
    exact hc ha
theorem own_block {w : World} {B : Nat} {e : TypeId} {size : Nat} {a : Option Addr} {n c : Nat} {xs : List Value} (h : w.ownsRow B e size (.slice a n c) n xs) : ∀ b o s, a = some ⟨b, o, s⟩ → B ≤ b := by
  intro b o s ha
  exact (h.lt b (by rw [ha]; rfl)).1
/-- A row's address lies in memory from B on, or in the source's block. -/
def Near (B : Nat) (src a : Option Addr) : Prop := ∀ b o s, a = some ⟨b, o, s⟩ → B ≤ b ∨ ∃ o' s', src = some ⟨b, o', s'⟩
theorem Near.self (B : Nat) (a : Option Addr) : Near B a a := fun b o s h => .inr ⟨o, s, h⟩
theorem Near.nil (B : Nat) (src : Option Addr) : Near B src none := fun _ _ _ h => by cases h
theorem Near.own {w : World} {B B' : Nat} {e : TypeId} {size : Nat} {a src : Option Addr} {n c : Nat} {xs : List Value} (h : w.ownsRow B e size (.slice a n c) n xs) (hB : B' ≤ B) : Near B' src a :=
  fun b o s ha => .inl (Nat.le_trans hB (own_block h b o s ha))
theorem Near.mono {B B' : Nat} {src a : Option Addr} (h : Near B src a) (hB : B' ≤ B) : Near B' src a := fun b o s ha => (h b o s ha).imp (Nat.le_trans hB) id
theorem Near.trans' {B : Nat} {a : Option Addr} (h : Near B none a) (src : Option Addr) : Near B src a := fun b o s ha => by
  rcases h b o s ha with h1 | ⟨_, _, h1⟩
  · exact .inl h1
  · cases h1
theorem Near.trans {B : Nat} {src a b : Option Addr} (h : Near B src a) (h2 : Near B a b) : Near B src b := fun x o s hb => by
  rcases h2 x o s hb with h3 | ⟨o', s', h3⟩
  · exact .inl h3
  · exact h x o' s' h3
theorem Row.setOther {w : World} {a : Option Addr} {xs : List Value} (h : Row w a xs) {p : Addr} (hp : ∀ b o s, a = some ⟨b, o, s⟩ → b ≠ p.block) (v : Value) : Row (w.setCell p v) a xs := by
  rcases h with h | ⟨b, o, ha, hc⟩
  · exact .inl h
  · exact .inr ⟨b, o, ha, fun i hi => (World.cell?_setCell_other w p _ v (fun e => hp b o none ha (congrArg Addr.block e).symm)).trans (hc i hi)⟩
theorem Can.drew {w : World} {B : Nat} {e : TypeId} {size : Nat} {a : Option Addr} {n c : Nat} {xs : List Value} (h : Can w B e size a n c xs) : Can w.drew B e size a n c xs := h

/-- append: where the base may be appended to and the source can be read. -/
theorem run_can {P : Program} {w : World} {t e : TypeId} {size bytes : Nat} (el : Elem P t e size bytes) (ty : TypeId) (B : Nat) (a : Option Addr) (n c : Nat) (xs : List Value) (hcan : Can w B e size a n c xs)
    (ad : Option Addr) (m k : Nat) (news : List Value) (hl : news.length = m * size) (hr : Row w ad news) (h1 : ∀ u ∈ news, u.oneCell' = true) (hbytes : (n + m) * bytes ≤ 140737488355328) (hB : B ≤ w.heap.size) :
    ∃ a' c' w', (Builtin.append_ #[t, t] ty #[.slice a n c, .slice ad m k]).run P w = .ok (.slice a' (n + m) c') w' ∧ Can w' B e size a' (n + m) c' (xs ++ news) ∧ w.grownBy w' (Value.slice a n c).ownBlock ∧ Below B w w' ∧ (0 < m → w'.ownsRow B e size (.slice a' (n + m) c') (n + m) (xs ++ news)) ∧ (m = 0 → a' = a ∧ c' = c) := by
  obtain ⟨i, z, hi, hz, hsize, hby, hzs⟩ := el.info
  have hb := el.bpos
  have hp := el.pos
  have h63 : n + m ≤ maxLen := by
    have : n + m ≤ (n + m) * bytes := Nat.le_mul_of_pos_right _ hb
    unfold maxLen; omega
  have hlen : (xs ++ news).length = (n + m) * size := by rw [List.length_append, hcan.1, hl, Nat.add_mul]
  by_cases hm : m = 0
  · subst hm
    obtain rfl : news = [] := List.eq_nil_of_length_eq_zero (by simpa using hl)
    refine ⟨a, c, w, ?_, ?_, ⟨rfl, rfl, rfl, Nat.le_refl _, fun _ _ _ => rfl⟩, Below.refl _ _, fun h => absurd h (by omega), fun _ => ⟨rfl, rfl⟩⟩
    · have hle := hcan.le
      have hfc : ∀ w' : World, (Builtin.firstCells size 0 (.slice ad 0 k)).run P w' = .ok #[] w' := fun w' => by
        cases ad with
        | none => simp [Builtin.firstCells]
        | some ad => exact run_firstCells_some w' size 0 ad 0 k [] (by simp) (fun j u h => by simp at h)
      rw [← hsize] at hfc
      cases a with
      | none => simp [Builtin.append_, run_underlying el.under, sizeOf, typeInfo, hi, Builtin.lenOf, hle, hfc]
      | some x => simp [Builtin.append_, run_underlying el.under, sizeOf, typeInfo, hi, Builtin.lenOf, hle, hfc, storeCells]
    · rw [Nat.add_zero, List.append_nil]; exact hcan
  · obtain ⟨ad', rfl⟩ : ∃ x, ad = some x := by
      cases ad with
      | some x => exact ⟨x, rfl⟩
      | none =>
        rcases hr with rfl | ⟨_, _, h, _⟩
        · have := Nat.mul_pos (Nat.pos_of_ne_zero hm) hp
          simp at hl; omega
        · simp at h
    rcases hcan.2.2 with ⟨rfl, hrow⟩ | hown
    · have fin : ∀ v' w', w'.ownsRow w.heap.size e size v' (n + m) (xs ++ news) → w.grownBy w' none →
          ∃ a' c', v' = .slice a' (n + m) c' ∧ Can w' B e size a' (n + m) c' (xs ++ news) ∧ w.grownBy w' (Value.slice a n n).ownBlock ∧ Below B w w' ∧ (0 < m → w'.ownsRow B e size (.slice a' (n + m) c') (n + m) (xs ++ news)) ∧ (m = 0 → a' = a ∧ c' = n) := by
        intro v' w' ho hg
        obtain ⟨a', c', rfl, hc1, hc2, _⟩ := own_slice ho
        have hB2 : w'.ownsRow B e size (.slice a' (n + m) c') (n + m) (xs ++ news) := by
          obtain ⟨ho1, ho2⟩ := ho
          refine ⟨ho1, ?_⟩
          rcases ho2 with h | ⟨g, cap, cur, h2, h3, h4⟩
          · exact .inl h
          · exact .inr ⟨g, cap, cur, h2, Nat.le_trans hB h3, h4⟩
        exact ⟨a', c', rfl, ⟨hlen, h63, .inr hB2⟩, ⟨hg.os, hg.tape, hg.output, hg.size, fun q hq _ => hg.block q hq (by simp)⟩, (Below.refl B w).grown hg hB (fun _ h => by cases h), fun _ => hB2, fun h => absurd h hm⟩
      cases a with
      | some x =>
        obtain ⟨v', w', hrun, ho, hg⟩ := run_append_arg_grows w t ty e i z size bytes el.under hi hz hsize hby hzs hp x n n xs hcan.1 hrow.holds ad' m k news hl hr.holds (by omega) h63 hbytes
        obtain ⟨a', c', rfl, h⟩ := fin v' w' ho hg
        exact ⟨a', c', w', hrun, h⟩
      | none =>
        have hx : xs = [] := by
          rcases hrow with h | ⟨_, _, h, _⟩
          · exact h
          · simp at h
        subst hx
        have hn : n = 0 := by
          rcases Nat.eq_zero_or_pos n with h | h
          · exact h
          · have := Nat.mul_pos h hp
            have h0 := hcan.1
            simp at h0
            omega
        subst hn
        obtain ⟨v', w', hrun, ho, hg, _⟩ := run_append_own w w.heap.size t ty e i z size bytes el.under hi hz hsize hby hzs hp (.slice none 0 0) 0 [] (World.ownsRow_nil _ _ _ _) ad' m k news hl hr.holds h1 h63 hbytes (Nat.le_refl _)
        obtain ⟨a', c', rfl, h⟩ := fin v' w' ho hg
        exact ⟨a', c', w', hrun, h⟩
    · obtain ⟨v', w', hrun, ho, hg, _⟩ := run_append_own w B t ty e i z size bytes el.under hi hz hsize hby hzs hp (.slice a n c) n xs hown ad' m k news hl hr.holds h1 h63 hbytes hB
      obtain ⟨a', c', rfl, hc1, hc2, _⟩ := own_slice ho
      exact ⟨a', c', w', hrun, ⟨hlen, h63, .inr ho⟩, hg, Below.app (Below.refl B w) hown hg hB, fun _ => ho, fun h => absurd h hm⟩

theorem wpList_can {P : Program} {w : World} {ops : Array Oper} {rest : List Oper} {o : Oper} {ac : Act} {Q : Exit → Act → World → Prop} {t e : TypeId} {size bytes : Nat} (el : Elem P t e size bytes) (hgd : o.guard = none) (s x : Operand)
    (ho : o.op = .call { callee := .builtin .append, args := #[s, x], argTypes := #[t, t] })
    (B : Nat) (a : Option Addr) (n c : Nat) (xs : List Value) (hs : ac.eval s = .slice a n c) (hcan : Can w B e size a n c xs)
    (ad : Option Addr) (m k : Nat) (news : List Value) (hx : ac.eval x = .slice ad m k) (hl : news.length = m * size) (hr : Row w ad news) (h1 : ∀ u ∈ news, u.oneCell' = true)
    (hbytes : (n + m) * bytes ≤ 140737488355328) (hB : B ≤ w.heap.size)
    (h : ∀ a' c' w', Can w' B e size a' (n + m) c' (xs ++ news) → w.grownBy w' (Value.slice a n c).ownBlock → Below B w w' → (0 < m → w'.ownsRow B e size (.slice a' (n + m) c') (n + m) (xs ++ news)) ∧ (m = 0 → a' = a ∧ c' = c) → wpList P ops Q rest (ac.put o.dst (.slice a' (n + m) c')) w') : wpList P ops Q (o :: rest) ac w := by
  obtain ⟨a', c', w', hrun, h2, h3, h4, h5⟩ := run_can el o.type B a n c xs hcan ad m k news hl hr h1 hbytes hB
  refine wpList_plain hgd fun K hK => ?_
  unfold Oper.wp execOp
  simp only [ho, resolve, invoke, builtin, Sem.run_bind, Sem.run_pure, Result.andThen_ok, List.map_toArray, List.map_cons, List.map_nil, hs, hx, hrun]
  exact hK _ _ (h a' c' w' h2 h3 h4 h5)

theorem flatMap_drop {α : Type} {cells : α → List Value} {size : Nat} (hs : ∀ x, (cells x).length = size) : ∀ (xs : List α) (k : Nat), (xs.flatMap cells).drop (k * size) = (xs.drop k).flatMap cells
  | [], k => by simp
  | x :: xs, 0 => by simp
  | x :: xs, k + 1 => by
    rw [List.flatMap_cons, List.drop_succ_cons, Nat.succ_mul, Nat.add_comm, ← hs x, ← List.drop_drop, List.drop_left, hs x]
    exact flatMap_drop hs xs k
theorem flatMap_take {α : Type} {cells : α → List Value} {size : Nat} (hs : ∀ x, (cells x).length = size) : ∀ (xs : List α) (k : Nat), (xs.flatMap cells).take (k * size) = (xs.take k).flatMap cells
  | [], k => by simp
  | x :: xs, 0 => by simp
  | x :: xs, k + 1 => by
    rw [List.flatMap_cons, List.take_succ_cons, List.flatMap_cons, Nat.succ_mul, Nat.add_comm, ← hs x, List.take_length_add_append, hs x]
    rw [flatMap_take hs xs k]

theorem step_can {P : Program} {w : World} {ops : Array Oper} {o : Oper} {ac : Act} {K : Act → World → Prop} {Q : Exit → Act → World → Prop} {E : Prop} {t e : TypeId} {size bytes : Nat} (el : Elem P t e size bytes) (hgd : o.guard = none) (s x : Operand)
    (ho : o.op = .call { callee := .builtin .append, args := #[s, x], argTypes := #[t, t] })
    (B : Nat) (a : Option Addr) (n c : Nat) (xs : List Value) (hs : ac.eval s = .slice a n c) (hcan : Can w B e size a n c xs)
    (ad : Option Addr) (m k : Nat) (news : List Value) (hx : ac.eval x = .slice ad m k) (hl : news.length = m * size) (hr : Row w ad news) (h1 : ∀ u ∈ news, u.oneCell' = true)
    (hbytes : (n + m) * bytes ≤ 140737488355328) (hB : B ≤ w.heap.size)
    (h : ∀ a' c' w', Can w' B e size a' (n + m) c' (xs ++ news) → w.grownBy w' (Value.slice a n c).ownBlock → Below B w w' → (0 < m → w'.ownsRow B e size (.slice a' (n + m) c') (n + m) (xs ++ news)) ∧ (m = 0 → a' = a ∧ c' = c) → K (ac.put o.dst (.slice a' (n + m) c')) w') :
    if Region.wanted o (yielded ops ac.tmps) = true then Oper.wp P o ac w K Q else E := by
  have hw : Region.wanted o (yielded ops ac.tmps) = true := by simp [Region.wanted, hgd]
  rw [if_pos hw]
  obtain ⟨a', c', w', hrun, h2, h3, h4, h5⟩ := run_can el o.type B a n c xs hcan ad m k news hl hr h1 hbytes hB
  unfold Oper.wp execOp
  simp only [ho, resolve, invoke, builtin, Sem.run_bind, Sem.run_pure, Result.andThen_ok, List.map_toArray, List.map_cons, List.map_nil, hs, hx, hrun]
  exact h a' c' w' h2 h3 h4 h5
theorem own_cells {w w' : World} {c : Array Value} {e : TypeId} (hb : Below (w.alloc (.cells c e)).heap.size (w.alloc (.cells c e)) w') : ∀ j, w'.cell? ⟨w.heap.size, j, none⟩ = c[j]? :=
  fun j => (hb.cell (p := ⟨w.heap.size, j, none⟩) (by simp)).trans (World.cell?_alloc_at _ _ _ j rfl)
theorem own_frozen {w w' : World} {c : Array Value} {e : TypeId} (hb : Below (w.alloc (.cells c e)).heap.size (w.alloc (.cells c e)) w') : ∀ j, w'.frozen? ⟨w.heap.size, j, none⟩ = false :=
  fun j => (hb.frozen (p := ⟨w.heap.size, j, none⟩) (by simp)).trans (World.frozen?_alloc_at _ _ _ j rfl)

theorem Below.more {w w1 : World} (h : Below w.heap.size w w1) (o : Obj) : Below w.heap.size w (w1.alloc o) := h.alloc h.size o
theorem Below.next {w w1 w2 : World} (h : Below w.heap.size w w1) (k : Below w1.heap.size w1 w2) : Below w.heap.size w w2 := h.trans (k.mono h.size)
theorem Below.put {w w1 : World} {p : Addr} (h : Below w.heap.size w w1) (hp : w.heap.size ≤ p.block) (u : Value) : Below w.heap.size w (w1.setCell p u) := h.setCell hp u
theorem Below.size' {w w1 : World} (h : Below w.heap.size w w1) : w.heap.size ≤ w1.heap.size := h.size
theorem below_drewN {B : Nat} {a w : World} (h : Below B a w) (n : Nat) : Below B a (w.drewN n) := ⟨h.os, h.tape, h.output, h.size, h.block⟩
theorem Below.boxed {w w' : World} {o : Obj} (h : Below (w.alloc o).heap.size (w.alloc o) w') : w.heap.size < w'.heap.size := by have := h.size; simp at this; omega
end Go.Proofs.YtkboojpkkhiceaaDoor

/- How a law's arguments are opened, and the frame that makes a statement out of a walk: for any law of plain data that answers one bool. -/
namespace Go.Proofs.YtkboojpkkhiceaaDoor
open Go.ChangeShapes Go.WideShapes Go.ChangeAt Go.RowKit Go.Deep
set_option maxRecDepth 100000

/-- The cells read as a datum of the type. -/
def Rd {H : Type} (enc : TypeId × Value → H) (P : Program) (w : World) (t : TypeId) (cs : List Value) : Prop :=
  ∃ fuel x, DataW.trod enc P w 0 (fun _ => true) true fuel t cs = some x ∧ ∀ n ∈ x.1.weights P t, n ≤ reachBytes
/-- The value is one of the type, and reads as a datum. -/
def RdV {H : Type} (enc : TypeId × Value → H) (P : Program) (w : World) (t : TypeId) (v : Value) : Prop :=
  (∃ base, Value.okWide P w .any base t v) ∧ Rd enc P w t v.cells.toList
def RdAll {H : Type} (enc : TypeId × Value → H) (P : Program) (w : World) : List TypeId → List Value → Prop
  | [], vs => vs = []
  | t :: ts, vs => ∃ v vs', vs = v :: vs' ∧ RdV enc P w t v ∧ RdAll enc P w ts vs'

section
variable {H : Type} {enc : TypeId × Value → H} {P : Program} {w : World} {t : TypeId}

theorem weights_sub {P : Program} {e : TypeId} {d : DataW H} {k : Nat} : ∀ {l : List (DataW H)}, d ∈ l → k ∈ d.weights P e → k ∈ DataW.weightsAll P e l
  | a :: l, hd, hk => by
    rw [DataW.weightsAll, List.mem_append]
    rcases List.mem_cons.1 hd with rfl | h
    · exact .inl hk
    · exact .inr (weights_sub h hk)
theorem weights_sub_each {P : Program} {k : Nat} {t : TypeId} {d : DataW H} : ∀ {ts : List TypeId} {l : List (DataW H)} {i : Nat}, ts[i]? = some t → l[i]? = some d → k ∈ d.weights P t → k ∈ DataW.weightsEach P ts l
  | t :: ts, a :: l, 0, ht, hd, hk => by
    simp at ht hd
    subst ht; subst hd
    rw [DataW.weightsEach, List.mem_append]
    exact .inl hk
  | _ :: ts, _ :: l, i + 1, ht, hd, hk => by
    rw [DataW.weightsEach, List.mem_append]
    exact .inr (weights_sub_each (i := i) (by simpa using ht) (by simpa using hd) hk)
  | [], _, _, ht, _, _ => by simp at ht
  | _ :: _, [], _, _, hd, _ => by simp at hd
theorem Rd.int {k : IntKind} {cs : List Value} (ht : P.underlying t = some (.int k)) (h : Rd enc P w t cs) : ∃ n, cs = [.int k n] ∧ (Lit.int k n).wf = true := by
  obtain ⟨f, x, h, _⟩ := h
  obtain ⟨n, h1, _, h2⟩ := DataW.trod_int ht h
  exact ⟨n, h1, h2⟩
theorem Rd.bool {cs : List Value} (ht : P.underlying t = some .bool) (h : Rd enc P w t cs) : ∃ b, cs = [.bool b] := by
  obtain ⟨f, x, h, _⟩ := h
  obtain ⟨b, h1, _⟩ := DataW.trod_bool ht h
  exact ⟨b, h1⟩
theorem Rd.slice {e : TypeId} {cs : List Value} (ht : P.underlying t = some (.slice e)) (h : Rd enc P w t cs) :
    cs = [.slice none 0 0] ∨ ∃ a len cap, cs = [.slice (some a) len cap] ∧ len ≤ cap ∧ cap ≤ maxLen ∧ cap * P.bytesOf e ≤ reachBytes ∧
      ∀ i, i < cap → ∃ c, w.cells? 0 (a.add (i * P.cellsOf e)) (P.cellsOf e) = some c ∧ Rd enc P w e c := by
  obtain ⟨f, x, h, hw⟩ := h
  rcases open_slice ht h with ⟨h1, _⟩ | ⟨a, len, cap, m, n, D, Pl, h1, _, hl, hc, hm, rfl, hel⟩
  · exact .inl h1
  · simp only [if_true] at hm
    obtain rfl := hm
    simp only [DataW.weights, ht, List.length_map, List.length_range, List.mem_cons, List.mem_append] at hw
    refine .inr ⟨a, len, m, h1, hl, hc, ?_, fun i hi => ?_⟩
    · have := hw _ (.inl rfl)
      rw [Nat.add_sub_cancel' hl] at this
      exact this
    · obtain ⟨c, hc, hx⟩ := hel i hi
      refine ⟨c, hc, n, _, hx, fun k hk => hw k (.inr ?_)⟩
      by_cases h : i < len
      · exact .inl (weights_sub (List.mem_map.2 ⟨i, by simpa using h, rfl⟩) hk)
      · exact .inr (weights_sub (List.mem_map.2 ⟨i - len, by simp; omega, by rw [Nat.add_sub_cancel' (by omega)]⟩) hk)
theorem Rd.struct {fs : Array Field} {cs : List Value} (ht : P.underlying t = some (.struct fs)) (h : Rd enc P w t cs) :
    cs.length = P.cellsOf t ∧ ∀ (i : Nat) (f : Field), fs[i]? = some f → Rd enc P w f.type ((cs.drop f.offset).take (P.cellsOf f.type)) := by
  obtain ⟨f, x, h, hw⟩ := h
  obtain ⟨xs, n, _, rfl, hl, hx, hel⟩ := DataW.trod_struct ht h
  simp only [DataW.weights, ht] at hw
  refine ⟨hl, fun i f hf => ?_⟩
  have := hel i f hf
  have hi : i < xs.length := by
    rw [hx]
    exact (Array.getElem?_eq_some_iff.1 hf).1
  exact ⟨n, xs[i], by rw [this, List.getElem?_eq_getElem hi], fun k hk => hw k (weights_sub_each (i := i) (by simpa using ⟨f, hf, rfl⟩) (by simp [List.getElem?_eq_getElem hi]) hk)⟩
theorem RdV.int {k : IntKind} {v : Value} (ht : P.underlying t = some (.int k)) (h : RdV enc P w t v) : ∃ n, v = .int k n ∧ (Lit.int k n).wf = true := by
  obtain ⟨⟨_, ho⟩, h⟩ := h
  obtain ⟨n, rfl⟩ := okWide_int ht ho
  obtain ⟨m, h1, h2⟩ := h.int ht
  simp [Value.cells] at h1
  subst h1
  exact ⟨_, rfl, h2⟩
theorem RdV.bool {v : Value} (ht : P.underlying t = some .bool) (h : RdV enc P w t v) : ∃ b, v = .bool b := by
  obtain ⟨⟨_, ho⟩, h⟩ := h
  exact okWide_bool ht ho
theorem RdV.slice {e : TypeId} {v : Value} (ht : P.underlying t = some (.slice e)) (h : RdV enc P w t v) : ∃ a len cap, v = .slice a len cap ∧ Rd enc P w t [.slice a len cap] := by
  obtain ⟨⟨_, ho⟩, h⟩ := h
  obtain ⟨a, len, cap, rfl⟩ := okWide_slice ht ho
  exact ⟨a, len, cap, rfl, h⟩
theorem RdV.struct {fs : Array Field} {v : Value} (ht : P.underlying t = some (.struct fs)) (h : RdV enc P w t v) : ∃ cs : List Value, v = .agg cs.toArray ∧ Rd enc P w t cs := by
  obtain ⟨⟨_, ho⟩, h⟩ := h
  obtain ⟨cs, rfl, _⟩ := okWide_struct ht ho
  exact ⟨cs.toList, by simp, h⟩

/-- A slice opened, its elements as whatever they are told to be. -/
theorem Rd.rows {α : Type} {e : TypeId} {a : Option Addr} {len cap size : Nat} {cells : α → List Value} {good : α → Prop} (hs : ∀ x, (cells x).length = size) (hpos : 0 < size) (ht : P.underlying t = some (.slice e)) (hc : P.cellsOf e = size)
    (each : ∀ cs, Rd enc P w e cs → ∃ x, cs = cells x ∧ good x) (h : Rd enc P w t [.slice a len cap]) :
    ∃ xs : List α, xs.length = len ∧ len ≤ cap ∧ cap ≤ maxLen ∧ cap * P.bytesOf e ≤ reachBytes ∧ (a = none → cap = 0) ∧ (∀ x ∈ xs, good x) ∧ Row w a (xs.flatMap cells) := by
  rcases h.slice ht with h1 | ⟨x, l, c, h1, hl, hm, hby, hel⟩
  · simp at h1
    obtain ⟨rfl, rfl, rfl⟩ := h1
    exact ⟨[], rfl, Nat.le_refl _, Nat.zero_le _, by simp, fun _ => rfl, by simp, .inl rfl⟩
  · simp at h1
    obtain ⟨rfl, rfl, rfl⟩ := h1
    rw [hc] at hel
    have hv : ∀ i, i < len → ∃ y : α, good y ∧ w.cells? 0 (x.add (i * size)) size = some (cells y) := by
      intro i hi
      obtain ⟨cs, hcs, hr⟩ := hel i (by omega)
      obtain ⟨y, rfl, hy⟩ := each _ hr
      exact ⟨y, hy, hcs⟩
    by_cases h0 : len = 0
    · subst h0
      exact ⟨[], rfl, Nat.zero_le _, hm, hby, fun e => by simp at e, by simp, .inl rfl⟩
    · obtain ⟨y0, _⟩ := hv 0 (by omega)
      have : Inhabited α := ⟨y0⟩
      obtain ⟨g, hg⟩ := choose_lt (p := fun i y => good y ∧ w.cells? 0 (x.add (i * size)) size = some (cells y)) hv
      have hcell : ∀ i r, i < len → r < size → w.cell? ((x.add (i * size)).add r) = (cells (g i))[r]? := by
        intro i r hi hr
        obtain ⟨_, _, hall⟩ := World.cells?_some (hg i hi).2
        exact hall r hr
      have hspot : x.spot = none := by
        have h1 := hcell 0 0 (by omega) hpos
        obtain ⟨v, hv⟩ : ∃ v, (cells (g 0))[0]? = some v := by
          cases hh : (cells (g 0))[0]? with
          | some v => exact ⟨v, rfl⟩
          | none => rw [List.getElem?_eq_none_iff, hs] at hh; omega
        have := World.cell?_spot (h1.trans hv)
        simpa [Addr.add] using this
      obtain ⟨b, o, spot⟩ := x
      simp only at hspot
      subst hspot
      refine ⟨(List.range len).map g, by simp, hl, hm, hby, fun e => by simp at e, ?_, .inr ⟨b, o, rfl, fun j hj => ?_⟩⟩
      · intro y hy
        obtain ⟨i, hi, rfl⟩ := List.mem_map.1 hy
        exact (hg i (by simpa using hi)).1
      · have hlen := flatMap_len hs ((List.range len).map g)
        rw [List.length_map, List.length_range] at hlen
        have hj2 : j < len * size := by rw [← hlen]; exact hj
        have hi : j / size < len := Nat.div_lt_of_lt_mul (by rw [Nat.mul_comm]; exact hj2)
        have hr : j % size < size := Nat.mod_lt _ hpos
        have hjj : j / size * size + j % size = j := by rw [Nat.mul_comm]; exact Nat.div_add_mod j size
        have h1 := flatMap_at hs (xs := (List.range len).map g) (i := j / size) hr
        rw [hjj] at h1
        have h2 := hcell (j / size) (j % size) hi hr
        have h3 : ((⟨b, o, none⟩ : Addr).add (j / size * size)).add (j % size) = ⟨b, o + j, none⟩ := by
          rw [add_add, hjj]
          unfold Addr.add
          by_cases hz : j = 0
          · subst hz; simp
          · simp [hz]
        rw [h3] at h2
        rw [h2, ← List.getElem?_eq_getElem hj, h1, List.getElem?_map, List.getElem?_range hi]
        rfl

/-- A slice of one-cell numbers, opened. -/
theorem Rd.ints {e : TypeId} {k : IntKind} {a : Option Addr} {len cap : Nat} (ht : P.underlying t = some (.slice e)) (he : P.underlying e = some (.int k)) (hc : P.cellsOf e = 1) (h : Rd enc P w t [.slice a len cap]) :
    ∃ zs : List Int, zs.length = len ∧ len ≤ cap ∧ cap ≤ maxLen ∧ cap * P.bytesOf e ≤ reachBytes ∧ (∀ n ∈ zs, (Lit.int k n).wf = true) ∧ (a = none → cap = 0) ∧ Row w a (zs.map (Value.int k)) := by
  rcases h.slice ht with h1 | ⟨x, l, c, h1, hl, hm, hby, hel⟩
  · simp at h1
    obtain ⟨rfl, rfl, rfl⟩ := h1
    exact ⟨[], rfl, Nat.le_refl _, Nat.zero_le _, by simp, by simp, fun _ => rfl, .inl rfl⟩
  · simp at h1
    obtain ⟨rfl, rfl, rfl⟩ := h1
    rw [hc] at hel
    have hv : ∀ i, i < len → ∃ n, (Lit.int k n).wf = true ∧ w.cell? (x.add i) = some (.int k n) := by
      intro i hi
      obtain ⟨cs, hcs, hr⟩ := hel i (by omega)
      obtain ⟨n, rfl, hw⟩ := hr.int he
      refine ⟨n, hw, ?_⟩
      rw [Nat.mul_one] at hcs
      simp only [World.cells?, Nat.zero_le, if_true, List.range_succ, List.range_zero, List.nil_append] at hcs
      have he : (x.add i).add 0 = x.add i := by simp [Addr.add]
      simp only [List.mapM_cons, List.mapM_nil, he] at hcs
      revert hcs
      cases w.cell? (x.add i) with
      | none => intro h; cases h
      | some v => intro h; simpa using h
    obtain ⟨g, hg⟩ := choose_lt (p := fun i n => (Lit.int k n).wf = true ∧ w.cell? (x.add i) = some (.int k n)) hv
    refine ⟨(List.range len).map g, by simp, hl, hm, hby, ?_, fun e => by simp at e, ?_⟩
    · intro n hn
      obtain ⟨i, hi, rfl⟩ := List.mem_map.1 hn
      exact (hg i (by simpa using hi)).1
    · by_cases h0 : len = 0
      · subst h0; exact .inl rfl
      · have hs := World.cell?_spot (hg 0 (by omega)).2
        have hspot : x.spot = none := by simpa [Addr.add] using hs
        obtain ⟨b, o, spot⟩ := x
        simp only at hspot
        subst hspot
        refine .inr ⟨b, o, rfl, fun i hi => ?_⟩
        simp only [List.length_map, List.length_range] at hi
        have := (hg i hi).2
        by_cases hi0 : i = 0
        · subst hi0; simpa [Addr.add] using this
        · simpa [Addr.add, hi0] using this
/-- A slice of bytes, opened. -/
theorem Rd.bytes {e : TypeId} {a : Option Addr} {len cap : Nat} (ht : P.underlying t = some (.slice e)) (he : P.underlying e = some (.int .u8)) (hc : P.cellsOf e = 1) (h : Rd enc P w t [.slice a len cap]) :
    ∃ l : List UInt8, l.length = len ∧ len ≤ cap ∧ cap ≤ maxLen ∧ cap * P.bytesOf e ≤ reachBytes ∧ (a = none → cap = 0) ∧ RowB w a l := by
  obtain ⟨zs, h1, h2, h3, hby, h4, h5, h6⟩ := h.ints ht he hc
  refine ⟨zs.map fun z => UInt8.ofNat z.toNat, by simpa using h1, h2, h3, hby, h5, ?_⟩
  have : (zs.map fun z => UInt8.ofNat z.toNat).map B = zs.map (Value.int .u8) := by
    rw [List.map_map]
    refine List.map_congr_left fun z hz => ?_
    obtain ⟨b0, b1⟩ := bounds_u8 (h4 z hz)
    simp only [Function.comp, B]
    congr 1
    rw [UInt8.toNat_ofNat']
    omega
  unfold RowB
  rw [this]
  exact h6
end

theorem RdAll.of {H : Type} {enc : TypeId × Value → H} {P : Program} {w : World} {base : Nat} : ∀ {ts : List TypeId} {vs : List Value} {ds : List (DataW H)} {p : List MemPlace}, DataW.TrodAll enc P w 0 (fun _ => true) true ts vs ds p →
    (∀ (j : Nat) t v, ts[j]? = some t → vs[j]? = some v → Value.okWide P w .any base t v) → (∀ n ∈ DataW.weightsEach P ts ds, n ≤ reachBytes) → RdAll enc P w ts vs
  | [], [], [], _, _, _, _ => rfl
  | t :: _, v :: vs, _ :: _, _, ⟨_, _, ⟨fuel, hx⟩, h, _⟩, hok, hw =>
    ⟨v, vs, rfl, ⟨⟨base, hok 0 t v rfl rfl⟩, fuel, _, hx, fun n hn => hw n (by rw [DataW.weightsEach, List.mem_append]; exact .inl hn)⟩,
      RdAll.of h (fun j t v ht hv => hok (j + 1) t v ht hv) (fun n hn => hw n (by rw [DataW.weightsEach, List.mem_append]; exact .inr hn))⟩

theorem trodAll_stays {H : Type} {enc : TypeId × Value → H} {P : Program} {W W' : World} (hl : laidOutB P = true) (hb : Below W.heap.size W W') : ∀ {ts : List TypeId} {vs : List Value} {ds : List (DataW H)} {p : List MemPlace},
    (∀ t ∈ ts, P.readableRec t = true ∧ t < P.types.size) → DataW.TrodAll enc P W 0 (fun _ => true) true ts vs ds p → DataW.TrodAll enc P W' 0 (fun b => decide (b < W.heap.size)) true ts vs ds p
  | [], [], [], _, _, h => h
  | t :: ts, v :: vs, d :: ds, _, hall, ⟨p, q, hx, h, rfl⟩ =>
    ⟨_, _, Below.trod hl (hall t (by simp)).1 (hall t (by simp)).2 hx hb (by obtain ⟨m, hm⟩ := hx; exact DataW.trod_lt m _ _ _ hm), trodAll_stays hl hb (fun t ht => hall t (by simp [ht])) h, rfl⟩

theorem trodAll_length {H : Type} {enc : TypeId × Value → H} {P : Program} {W : World} {b : Nat} {sp : Nat → Bool} {hd : Bool} : ∀ {ts : List TypeId} {vs : List Value} {ds : List (DataW H)} {p : List MemPlace},
    DataW.TrodAll enc P W b sp hd ts vs ds p → ds.length = ts.length
  | [], [], [], _, _ => rfl
  | _ :: _, _ :: _, _ :: _, _, ⟨_, _, _, h, _⟩ => congrArg (· + 1) (trodAll_length h)

/-- THE FRAME: from the walk to the lifted row. -/
theorem law_lifted {H : Type} {enc : TypeId × Value → H} {C : Checked} {os : Os} {f : FuncId} {fn : Func} {s : ChangeSpec} {boolT : TypeId}
    (own : ownKnob C.prog.godebug = none) (started : os.Started) (noInit : C.prog.inits.idxOf? f = none) (hfn : C.prog.funcs[f]? = some fn)
    (witness : ∃ (w : World) (tape : Tape) (i : Input), w.os = os ∧ (w.forCall tape i).Shaped C.prog ∧ i.vars = [] ∧ Input.okWide C.prog (w.forCall tape i) .any w.heap.size f i ∧
      s.pre6 enc C.prog fn [] false (w.forCall tape i).memory i.args ∧ ({} : Assume).holds C.prog (lone (Frame.enter C.prog f i.args .normal) [] (w.forCall tape i)))
    (hvars : s.vars = []) (hres : fn.resultTypes = #[boolT]) (hbool : C.prog.underlying boolT = some .bool) (hlaid : laidOutB C.prog = true)
    (hpar0 : (fn.params.toList.all fun t => C.prog.readableRec t && decide (t < C.prog.types.size)) = true)
    (hspec : ∀ ds : List (DataW H), ds.length = fn.params.toList.length → s.fn H ds = { results := [.lit (.bool true)], args := ds })
    (walk : ∀ (W : World) (vs : List Value), RdAll enc C.prog W fn.params.toList vs → Calls C.prog f vs.toArray W fun e W' => e = .returned (.bool true) ∧ Below W.heap.size W W') :
    ReturnsInHanded {} C os f .any (s.pre6 enc C.prog fn [] false) (s.post enc C.prog fn false true false false) := by
  have hpar : ∀ t ∈ fn.params.toList, C.prog.readableRec t = true ∧ t < C.prog.types.size := fun t ht => by
    have := List.all_eq_true.1 hpar0 t ht
    simpa using this
  refine returnsInHanded_of_change_sized own started noInit hfn witness ?_
  intro W base args ds gs before hval hW hcnd hsz _
  have hW' := hW
  obtain ⟨p, q, hA, hV, rfl, hfz, hnd⟩ := hW
  rw [hvars] at hV
  obtain ⟨rfl, rfl⟩ : gs = [] ∧ q = [] := by
    cases gs with
    | nil => exact ⟨rfl, hV⟩
    | cons g gs => exact hV.elim
  have hr := RdAll.of (base := base) hA (fun j t v ht hv => hval j t v (by simpa using ht) (by simpa using hv)) (fun n hn => by
    have hv0 : s.plain.varTypes C.prog = [] := by unfold DataSpec.varTypes ChangeSpec.plain; simp [hvars]
    rw [hv0, List.append_nil, List.append_nil] at hsz
    simpa using List.all_eq_true.1 hsz n hn)
  have hw := walk W args.toList hr
  rw [Array.toArray_toList] at hw
  refine hw.mono fun e W' ⟨he, hb⟩ => ?_
  have hs := hspec ds (trodAll_length hA)
  refine ⟨_, he, ds, [], _, [], p, [], hW', ?_, ?_, ?_, hb.frame _, fun h => by cases h⟩
  · rw [List.append_nil, hs, hres]
    exact trodAll_mk1 (shut_bool hbool _)
  · rw [List.append_nil, hs]
    exact trodAll_stays hlaid hb hpar hA
  · rw [List.append_nil, hs, hvars]; rfl

theorem own : ownKnob Tryd.prog.godebug = none := by kernel_rfl
theorem laidOut : laidOutB Tryd.prog = true := by kernel_rfl
end Go.Proofs.YtkboojpkkhiceaaDoor

/- How things of a type lie in memory, whatever the type: rows of them that are read, rows of the call's own that are written. -/
namespace Go.Proofs.YtkboojpkkhiceaaDoor
open Go.ChangeShapes Go.WideShapes Go.ChangeAt Go.RowKit
set_option maxRecDepth 100000

structure Lay (P : Program) (e : TypeId) (α : Type) where
  cells : α → List Value
  val : α → Value
  size : Nat
  bytes : Nat
  len : ∀ x, (cells x).length = size
  pos : 0 < size
  bpos : 0 < bytes
  one : ∀ x, ∀ u ∈ cells x, u.oneCell' = true
  info : (P.info? e).map (fun i => (i.zero.map fun z => (z.cells.size, z.cells.all (·.oneCell')), i.size, i.bytes)) = some (some (size, true), size, bytes)
  load : ∀ (w : World) b o x, w.rangeAt b o (cells x) → (Instr.loadAt e (.pointer (some ⟨b, o, none⟩))).run P w = .ok (val x) w
  store : ∀ (w : World) b o x, w.there b o size → (Instr.storeAt e (.pointer (some ⟨b, o, none⟩)) (val x)).run P w = .ok () (w.setCells b o (cells x))

theorem size_of_info {P : Program} {e : TypeId} {size bytes : Nat} (h : (P.info? e).map (fun i => (i.zero.map fun z => (z.cells.size, z.cells.all (·.oneCell')), i.size, i.bytes)) = some (some (size, true), size, bytes)) : (P.info? e).map (·.size) = some size := by
  cases hi : P.info? e with
  | none => rw [hi] at h; cases h
  | some i => rw [hi] at h; simp at h; simp [h.2.1]

/-- A struct's lay. -/
def Lay.struct {P : Program} {e : TypeId} {α : Type} (cells : α → List Value) (size bytes : Nat) (len : ∀ x, (cells x).length = size) (pos : 0 < size) (bpos : 0 < bytes) (one : ∀ x, ∀ u ∈ cells x, u.oneCell' = true)
    (info : (P.info? e).map (fun i => (i.zero.map fun z => (z.cells.size, z.cells.all (·.oneCell')), i.size, i.bytes)) = some (some (size, true), size, bytes)) (d : TypeDesc) (hu : P.underlying e = some d) (hd : d.isRow = true) : Lay P e α where
  cells := cells
  val x := .agg (cells x).toArray
  size := size
  bytes := bytes
  len := len
  pos := pos
  bpos := bpos
  one := one
  info := info
  load w b o x h := run_loadAt_mid w b o e (cells x) d h hu hd (by rw [len]; exact size_of_info info)
  store w b o x h := by
    have := run_storeAt_mid (P := P) w b o e (cells x).toArray (by simpa [len] using h) (by simpa [len] using size_of_info info) (all_oneCell_toArray (one x))
    simpa using this

section
variable {P : Program} {e : TypeId} {α : Type} (L : Lay P e α)

/-- Things lie in a row. -/
abbrev LRow (w : World) (a : Option Addr) (xs : List α) : Prop := Row w a (xs.flatMap L.cells)
theorem Lay.length (xs : List α) : (xs.flatMap L.cells).length = xs.length * L.size := flatMap_len L.len xs
theorem Lay.ones (xs : List α) : ∀ u ∈ xs.flatMap L.cells, u.oneCell' = true := by
  intro u hu
  obtain ⟨x, _, hx⟩ := List.mem_flatMap.1 hu
  exact L.one x u hx
theorem Lay.at (xs : List α) {k r : Nat} (hr : r < L.size) : (xs.flatMap L.cells)[k * L.size + r]? = (xs[k]?).bind fun x => (L.cells x)[r]? := flatMap_at L.len hr
theorem Lay.parts : ∃ i z, P.info? e = some i ∧ i.zero = some z ∧ i.size = L.size ∧ i.bytes = L.bytes ∧ z.cells.size = L.size ∧ z.cells.all (·.oneCell') = true := by
  have h := L.info
  cases hi : P.info? e with
  | none => rw [hi] at h; cases h
  | some i =>
    rw [hi] at h
    cases hz : i.zero with
    | none => simp [hz] at h
    | some z =>
      simp only [hz, Option.map_some, Option.some.injEq, Prod.mk.injEq] at h
      exact ⟨i, z, rfl, hz, h.2.1, h.2.2, h.1.1, h.1.2⟩
theorem Lay.elem {t : TypeId} (ht : P.underlying t = some (.slice e)) : Elem P t e L.size L.bytes where
  under := ht
  info := let ⟨i, z, h1, h2, h3, h4, h5, _⟩ := L.parts; ⟨i, z, h1, h2, h3, h4, h5⟩
  pos := L.pos
  bpos := L.bpos
variable {L}
theorem LRow.range {w : World} {a : Option Addr} {xs : List α} (h : LRow L w a xs) {k : Nat} (hk : k < xs.length) :
    ∃ b o, a = some ⟨b, o, none⟩ ∧ ∀ w', Below w.heap.size w w' → w'.rangeAt b (o + k * L.size) (L.cells xs[k]) := by
  have h0 : 0 < (xs.flatMap L.cells).length := by rw [L.length]; exact Nat.mul_pos (by omega) L.pos
  obtain ⟨b, o, rfl, hc⟩ := Row.at h h0
  have hlt := Row.lt (w := w) (b := b) (o := o) (.inr ⟨b, o, rfl, hc⟩) (List.length_pos_iff.1 h0)
  refine ⟨b, o, rfl, fun w' hb j v hv => ?_⟩
  have hj : j < L.size := by have := (List.getElem?_eq_some_iff.1 hv).1; rw [L.len] at this; exact this
  have h1 := L.at xs (k := k) hj
  rw [List.getElem?_eq_getElem hk, Option.bind_some, hv] at h1
  obtain ⟨h2, h3⟩ := List.getElem?_eq_some_iff.1 h1
  rw [hb.cell (p := ⟨b, o + k * L.size + j, none⟩) hlt, Nat.add_assoc, hc _ h2, h3]
theorem LRow.below {w w' : World} {a : Option Addr} {xs : List α} (h : LRow L w a xs) (hb : Below w.heap.size w w') : LRow L w' a xs := Row.below h hb
theorem LRow.take {w : World} {a : Option Addr} {xs : List α} (h : LRow L w a xs) (k : Nat) : LRow L w a (xs.take k) := by
  show Row _ _ _
  rw [← flatMap_take L.len]; exact Row.take h _
theorem LRow.drop {w : World} {b o : Nat} {xs : List α} (h : LRow L w (some ⟨b, o, none⟩) xs) (k : Nat) : LRow L w (some ⟨b, o + k * L.size, none⟩) (xs.drop k) := by
  show Row _ _ _
  rw [← flatMap_drop L.len]; exact Row.drop h _

theorem wpList_load_lay {ops : Array Oper} {rest : List Oper} {op : Oper} {a : Act} {w : World} {Q : Exit → Act → World → Prop} (L : Lay P e α) (hgd : op.guard = none) (x : Operand) (ho : op.op = .load e x)
    (b o : Nat) (hx : a.eval x = .pointer (some ⟨b, o, none⟩)) (y : α) (hc : w.rangeAt b o (L.cells y)) (h : wpList P ops Q rest (a.put op.dst (L.val y)) w) : wpList P ops Q (op :: rest) a w :=
  wpList_plain hgd fun K hK => by
    unfold Oper.wp execOp
    simp only [ho, hx, Sem.run_bind, Sem.run_pure, Result.andThen_ok, L.load w b o y hc]
    exact hK _ _ h
theorem wpList_store_lay {ops : Array Oper} {rest : List Oper} {op : Oper} {a : Act} {w : World} {Q : Exit → Act → World → Prop} (L : Lay P e α) (hgd : op.guard = none) (x y : Operand) (ho : op.op = .store e x y)
    (b o : Nat) (z : α) (hx : a.eval x = .pointer (some ⟨b, o, none⟩)) (hy : a.eval y = L.val z) (ht : w.there b o L.size) (h : wpList P ops Q rest (a.put op.dst undef) (w.setCells b o (L.cells z))) : wpList P ops Q (op :: rest) a w :=
  wpList_plain hgd fun K hK => by
    unfold Oper.wp execOp
    simp only [ho, hx, hy, Sem.run_bind, Sem.run_pure, Result.andThen_ok, L.store w b o z ht]
    exact hK _ _ h

/-- clear: whatever is there is zero then. -/
theorem wpList_clear_lay {ops : Array Oper} {rest : List Oper} {op : Oper} {a : Act} {w : World} {Q : Exit → Act → World → Prop} (L : Lay P e α) {t : TypeId} (ht : P.underlying t = some (.slice e)) (hgd : op.guard = none) (s : Operand)
    (ho : op.op = .call { callee := .builtin .clear, args := #[s], argTypes := #[t] }) (b o n c : Nat) (hs : a.eval s = .slice (some ⟨b, o, none⟩) n c) (hth : w.there b o (n * L.size))
    (h : ∀ zs : List Value, zs.length = n * L.size → wpList P ops Q rest (a.put op.dst (.tuple #[])) (w.setCells b o zs)) : wpList P ops Q (op :: rest) a w :=
  wpList_plain hgd fun K hK => by
    obtain ⟨i, z, h1, h2, h3, _, h5, h6⟩ := L.parts
    have hz : (zeroValue e).run P w = .ok z w := by simp [zeroValue, typeInfo, h1, h2]
    by_cases hn : n = 0
    · subst hn
      have hrun : (Builtin.clear_ #[t] op.type #[.slice (some ⟨b, o, none⟩) 0 c]).run P w = .ok (.tuple #[]) w := by
        simp [Builtin.clear_, run_underlying ht]
      unfold Oper.wp execOp
      simp only [ho, resolve, invoke, builtin, Sem.run_bind, Sem.run_pure, Result.andThen_ok, List.map_toArray, List.map_cons, List.map_nil, hs, hrun]
      exact hK _ _ (h [] (by simp))
    · have hst := run_storeCells_cells (P := P) b o (Builtin.zeroCells z.cells n).toList 0 w (fun j hj => by
        have := (hth j (by simp [Builtin.zeroCells, h5] at hj; exact hj)).1; simpa using this) (fun j hj => by
        have := (hth j (by simp [Builtin.zeroCells, h5] at hj; exact hj)).2; simpa using this) (fun v hv => by
        simp only [Builtin.zeroCells, Array.toList_map, List.mem_map, Array.mem_toList_iff] at hv
        obtain ⟨i, _, rfl⟩ := hv
        have hp := L.pos
        have hlt : i % z.cells.size < z.cells.size := Nat.mod_lt _ (by omega)
        rw [getElem!_pos z.cells _ hlt]
        exact (Array.all_eq_true_iff_forall_mem.1 h6) _ (Array.getElem_mem hlt))
      rw [Nat.add_zero] at hst
      have hrun : (Builtin.clear_ #[t] op.type #[.slice (some ⟨b, o, none⟩) n c]).run P w = .ok (.tuple #[]) (w.setCells b o (Builtin.zeroCells z.cells n).toList) := by
        cases n with
        | zero => exact absurd rfl hn
        | succ n => simp only [Builtin.clear_]; simp [run_underlying ht, hz, hst]
      unfold Oper.wp execOp
      simp only [ho, resolve, invoke, builtin, Sem.run_bind, Sem.run_pure, Result.andThen_ok, List.map_toArray, List.map_cons, List.map_nil, hs, hrun]
      exact hK _ _ (h _ (by simp [Builtin.zeroCells, h5]))

theorem there_new (w : World) (cs : Array Value) (t : TypeId) : (w.alloc (.cells cs t)).there w.heap.size 0 cs.size := fun j hj => by
  have h := heap_alloc_new w (.cells cs t)
  refine ⟨?_, ?_⟩
  · simp only [World.cell?, h, Option.isSome_none, Bool.false_eq_true, if_false]
    rw [Array.getElem?_eq_getElem (by omega)]; rfl
  · simp only [World.frozen?, h]
    simp
theorem range_put {w : World} {b o : Nat} (x : α) (h : w.there b o L.size) : (w.setCells b o (L.cells x)).rangeAt b o (L.cells x) := World.rangeAt_setCells_same w b o _ (by rw [L.len]; exact h)
theorem rangeAt_below {B : Nat} {w w' : World} {b o : Nat} {cs : List Value} (h : w.rangeAt b o cs) (hb : Below B w w') (hB : b < B) : w'.rangeAt b o cs := fun j v hv => (hb.cell (p := ⟨b, o + j, none⟩) hB).trans (h j v hv)
theorem there_below {B : Nat} {w w' : World} {b o n : Nat} (h : w.there b o n) (hb : Below B w w') (hB : b < B) : w'.there b o n := fun j hj => by
  rw [hb.cell (p := ⟨b, o + j, none⟩) hB, hb.frozen (p := ⟨b, o + j, none⟩) hB]; exact h j hj

/-! ### Rows of the call's own -/
/-- The things lie in block g from o on, may be written, and the block is one of the call's own, from B on. -/
def Mine (L : Lay P e α) (w : World) (B g o : Nat) (xs : List α) : Prop := B ≤ g ∧ w.rangeAt g o (xs.flatMap L.cells) ∧ w.there g o (xs.length * L.size)
theorem Mine.row {w : World} {B g o : Nat} {xs : List α} (h : Mine L w B g o xs) : LRow L w (some ⟨g, o, none⟩) xs :=
  .inr ⟨g, o, rfl, fun i hi => h.2.1 i _ (List.getElem?_eq_getElem hi)⟩
theorem Mine.base {w : World} {B g o : Nat} {xs : List α} (h : Mine L w B g o xs) : B ≤ g := h.1
theorem Below.setCells {B : Nat} {a : World} {g : Nat} (hg : B ≤ g) : ∀ (vs : List Value) (o : Nat) {w : World}, Below B a w → Below B a (w.setCells g o vs)
  | [], _, _, h => h
  | v :: vs, o, w, h => by
    rw [World.setCells]
    exact Below.setCells hg vs (o + 1) (h.setCell (p := ⟨g, o, none⟩) hg v)
theorem Mine.there {w : World} {B g o : Nat} {xs : List α} (h : Mine L w B g o xs) {k : Nat} (hk : k < xs.length) : w.there g (o + k * L.size) L.size := fun j hj => by
  have h1 : k * L.size + j < xs.length * L.size := by
    have := Nat.mul_le_mul_right L.size (Nat.succ_le_of_lt hk)
    rw [Nat.succ_mul] at this; omega
  have := h.2.2 (k * L.size + j) h1
  rw [Nat.add_assoc]; exact this
theorem Mine.range {w : World} {B g o : Nat} {xs : List α} (h : Mine L w B g o xs) {k : Nat} (hk : k < xs.length) : w.rangeAt g (o + k * L.size) (L.cells xs[k]) := fun j v hv => by
  have hj : j < L.size := by have := (List.getElem?_eq_some_iff.1 hv).1; rw [L.len] at this; exact this
  have h1 := L.at xs (k := k) hj
  rw [List.getElem?_eq_getElem hk, Option.bind_some, hv] at h1
  have := h.2.1 _ _ h1
  rw [Nat.add_assoc]; exact this
theorem Mine.set {w : World} {B g o : Nat} {xs : List α} (h : Mine L w B g o xs) {k : Nat} (hk : k < xs.length) (x : α) : Mine L (w.setCells g (o + k * L.size) (L.cells x)) B g o (xs.set k x) := by
  refine ⟨h.1, fun j v hv => ?_, by rw [List.length_set]; exact World.there_setCells h.2.2 _ _ _⟩
  have hj : j < (xs.set k x).length * L.size := by have := (List.getElem?_eq_some_iff.1 hv).1; rw [L.length] at this; exact this
  have hp := L.pos
  have hr : j % L.size < L.size := Nat.mod_lt _ hp
  have hjj : j / L.size * L.size + j % L.size = j := by rw [Nat.mul_comm]; exact Nat.div_add_mod j L.size
  have h1 := L.at (xs.set k x) (k := j / L.size) hr
  rw [hjj, hv] at h1
  by_cases hk2 : j / L.size = k
  · rw [hk2, List.getElem?_set_self hk, Option.bind_some] at h1
    have hlen : j % L.size < (L.cells x).length := by rw [L.len]; exact hr
    have h2 := World.cell?_setCells_in g (L.cells x) (o + k * L.size) w (fun i hi => (h.there hk i (by rw [L.len] at hi; exact hi)).1) _ hlen
    have h3 : o + j = o + k * L.size + j % L.size := by rw [← hk2]; omega
    rw [h3, h2]
    rw [List.getElem?_eq_getElem hlen] at h1
    exact h1.symm
  · rw [List.getElem?_set_ne (fun e => hk2 e.symm)] at h1
    have h4 := L.at xs (k := j / L.size) hr
    rw [hjj, ← h1] at h4
    have h5 := h.2.1 j v h4
    rw [World.cell?_setCells_out g (L.cells x) (o + k * L.size) w ⟨g, o + j, none⟩ (fun _ _ => ?_)]
    · exact h5
    · rw [L.len]
      rcases Nat.lt_or_gt_of_ne hk2 with h6 | h6
      · left
        have := Nat.mul_le_mul_right L.size (Nat.succ_le_of_lt h6)
        rw [Nat.succ_mul] at this
        show o + j < o + k * L.size
        omega
      · right
        have := Nat.mul_le_mul_right L.size (Nat.succ_le_of_lt h6)
        rw [Nat.succ_mul] at this
        show o + k * L.size + L.size ≤ o + j
        omega
theorem Mine.take {w : World} {B g o : Nat} {xs : List α} (h : Mine L w B g o xs) (k : Nat) : Mine L w B g o (xs.take k) := by
  refine ⟨h.1, fun j v hv => ?_, fun j hj => h.2.2 j (Nat.lt_of_lt_of_le hj (Nat.mul_le_mul_right _ (by simp; omega)))⟩
  rw [← flatMap_take L.len, List.getElem?_take] at hv
  split at hv
  · exact h.2.1 j v hv
  · cases hv
theorem Mine.below {w w' : World} {B g o B' : Nat} {xs : List α} (h : Mine L w B g o xs) (hb : Below B' w w') (hg : g < B') : Mine L w' B g o xs :=
  ⟨h.1, fun j v hv => (hb.cell (p := ⟨g, o + j, none⟩) hg).trans (h.2.1 j v hv), fun j hj => by
    rw [hb.cell (p := ⟨g, o + j, none⟩) hg, hb.frozen (p := ⟨g, o + j, none⟩) hg]; exact h.2.2 j hj⟩
theorem Mine.lt {w : World} {B g o : Nat} {xs : List α} (h : Mine L w B g o xs) (h0 : xs ≠ []) : g < w.heap.size :=
  Row.lt h.row (by intro h1; have := congrArg List.length h1; rw [L.length, List.length_nil, Nat.mul_eq_zero] at this; have hp := L.pos; rcases this with h | h; exact h0 (List.eq_nil_of_length_eq_zero h); omega)
theorem Mine.of_own {w : World} {B : Nat} {g n c : Nat} {xs : List α} (h : w.ownsRow B e L.size (.slice (some ⟨g, 0, none⟩) n c) n (xs.flatMap L.cells)) : Mine L w B g 0 xs := by
  obtain ⟨hl, h⟩ := h
  rcases h with ⟨hv, _⟩ | ⟨g', cap, cur, hv, hB, hg, hnc, hm, hs, ht⟩
  · cases hv
  · simp only [Value.slice.injEq, Option.some.injEq, Addr.mk.injEq, and_true] at hv
    obtain ⟨rfl, _, rfl⟩ := hv
    have hxs : xs.length * L.size = n * L.size := by rw [← L.length]; exact hl
    have h2 : n * L.size ≤ cur.size := by rw [hs]; exact Nat.mul_le_mul_right _ hnc
    have hcell : ∀ j, w.cell? ⟨g, 0 + j, none⟩ = cur[j]? := fun j => by simp [World.cell?, hg]
    refine ⟨hB, fun j v hv => ?_, fun j hj => ?_⟩
    · rw [hcell]
      rw [← ht, List.getElem?_take] at hv
      split at hv
      · simpa using hv
      · cases hv
    · rw [hcell, Array.getElem?_eq_getElem (by omega)]
      exact ⟨rfl, by simp [World.frozen?, hg]⟩
theorem setCells_size (b : Nat) : ∀ (vs : List Value) (o : Nat) (w : World), (w.setCells b o vs).heap.size = w.heap.size
  | [], _, _ => rfl
  | v :: vs, o, w => by rw [World.setCells, setCells_size b vs]; simp
/-- A thing put into a new variable of its own. -/
theorem wpList_store_box {ops : Array Oper} {rest : List Oper} {op : Oper} {a : Act} {w : World} {cs : Array Value} {t : TypeId} {Q : Exit → Act → World → Prop} (L : Lay P e α) (hgd : op.guard = none) (x y : Operand) (ho : op.op = .store e x y)
    (z : α) (hx : a.eval x = .pointer (some ⟨w.heap.size, 0, none⟩)) (hy : a.eval y = L.val z) (ht : cs.size = L.size)
    (h : ∀ w', w'.rangeAt w.heap.size 0 (L.cells z) → w'.there w.heap.size 0 L.size → Below w.heap.size w w' → w'.heap.size = w.heap.size + 1 → wpList P ops Q rest (a.put op.dst undef) w') : wpList P ops Q (op :: rest) a (w.alloc (.cells cs t)) := by
  have hth : (w.alloc (.cells cs t)).there w.heap.size 0 L.size := by rw [← ht]; exact there_new w cs t
  refine wpList_store_lay L hgd x y ho w.heap.size 0 z hx hy hth (h _ (range_put z hth) (World.there_setCells hth _ _ _) (Below.setCells (Nat.le_refl _) _ _ ((Below.refl _ _).alloc (Nat.le_refl _) _)) (by rw [setCells_size]; simp))
/-- A thing put into its place in a row of the call's own. -/
theorem wpList_store_mine {ops : Array Oper} {rest : List Oper} {op : Oper} {a : Act} {w : World} {Q : Exit → Act → World → Prop} (L : Lay P e α) (hgd : op.guard = none) (x y : Operand) (ho : op.op = .store e x y)
    {B g o : Nat} {xs : List α} (hm : Mine L w B g o xs) (k : Nat) (hk : k < xs.length) (z : α) (hx : a.eval x = .pointer (some ⟨g, o + k * L.size, none⟩)) (hy : a.eval y = L.val z)
    (h : ∀ w', Mine L w' B g o (xs.set k z) → (∀ B', B' ≤ g → Below B' w w') → w'.heap.size = w.heap.size → wpList P ops Q rest (a.put op.dst undef) w') : wpList P ops Q (op :: rest) a w :=
  wpList_store_lay L hgd x y ho g (o + k * L.size) z hx hy (hm.there hk) (h _ (hm.set hk z) (fun _ hB => Below.setCells hB _ _ (Below.refl _ _)) (setCells_size _ _ _ _))
/-- What lies behind a row's first things is struck. -/
theorem wpList_clear_mine {ops : Array Oper} {rest : List Oper} {op : Oper} {a : Act} {w : World} {Q : Exit → Act → World → Prop} (L : Lay P e α) {t : TypeId} (ht : P.underlying t = some (.slice e)) (hgd : op.guard = none) (s : Operand)
    (ho : op.op = .call { callee := .builtin .clear, args := #[s], argTypes := #[t] }) {B g o : Nat} {xs : List α} (hm : Mine L w B g o xs) (k : Nat) (hk : k ≤ xs.length) (n c : Nat) (hn : n + k = xs.length) (hs : a.eval s = .slice (some ⟨g, o + k * L.size, none⟩) n c)
    (h : ∀ w', Mine L w' B g o (xs.take k) → (∀ B', B' ≤ g → Below B' w w') → w'.heap.size = w.heap.size → wpList P ops Q rest (a.put op.dst (.tuple #[])) w') : wpList P ops Q (op :: rest) a w := by
  have hth : w.there g (o + k * L.size) (n * L.size) := fun j hj => by
    have := hm.2.2 (k * L.size + j) (by rw [← hn, Nat.add_mul]; omega)
    rw [Nat.add_assoc]; exact this
  refine wpList_clear_lay L ht hgd s ho g (o + k * L.size) n c hs hth fun zs _ => h _ ?_ (fun _ hB => Below.setCells hB _ _ (Below.refl _ _)) (setCells_size _ _ _ _)
  have h1 := hm.take k
  refine ⟨h1.1, World.rangeAt_setCells_apart h1.2.1 _ _ _ (.inr (.inl ?_)), World.there_setCells h1.2.2 _ _ _⟩
  rw [L.length, List.length_take, Nat.min_eq_left hk]; omega
theorem own_head {w : World} {B : Nat} {t : TypeId} {size : Nat} {a : Option Addr} {n c : Nat} {xs : List Value} (h : w.ownsRow B t size (.slice a n c) n xs) (h0 : xs ≠ []) : ∃ g, a = some ⟨g, 0, none⟩ ∧ B ≤ g ∧ c ≤ maxLen := by
  rcases h.2 with ⟨_, h1⟩ | ⟨g, cap, cur, hv, hB, hg, hnc, hm, hs, ht⟩
  · exact absurd (List.eq_nil_of_length_eq_zero (by rw [h.1, h1, Nat.zero_mul])) h0
  · simp only [Value.slice.injEq] at hv
    obtain ⟨rfl, _, rfl⟩ := hv
    exact ⟨g, rfl, hB, hm⟩
theorem Mine.mono {w : World} {B B' g o : Nat} {xs : List α} (h : Mine L w B g o xs) (hB : B' ≤ B) : Mine L w B' g o xs := ⟨Nat.le_trans hB h.1, h.2⟩
end
end Go.Proofs.YtkboojpkkhiceaaDoor

/- What is answered. -/
namespace Go.Proofs.YtkboojpkkhiceaaDoor
structure Ans where
  e : Int
  rate : Int
  burst : Int
  lease : Int
  size : Int
  deriving DecidableEq
def Ans.err (e : Int) : Ans := ⟨e, 0, 0, 0, 0⟩
end Go.Proofs.YtkboojpkkhiceaaDoor

namespace Go.Proofs.YtkboojpkkhiceaaDoor
open Go.ChangeShapes Go.WideShapes Go.ChangeAt Go.RowKit
set_option maxRecDepth 100000

abbrev Ans.agg (a : Ans) : Value := .agg #[.int .i64 a.e, .int .i64 a.rate, .int .i64 a.burst, .int .i64 a.lease, .int .i64 a.size]
abbrev Ans.cells (t : Ans) : List Value := [.int .i64 t.e, .int .i64 t.rate, .int .i64 t.burst, .int .i64 t.lease, .int .i64 t.size]
def layAns : Lay Tryd.prog 31 Ans := Lay.struct Ans.cells 5 40 (fun _ => rfl) (by decide) (by decide) (fun x u hu => by simp at hu; rcases hu with h | h | h | h | h <;> subst h <;> rfl) (by kernel_rfl) _ Tryd.underlying31 rfl
theorem cellsAns {w : World} {b o : Nat} {t : Ans} (h : w.rangeAt b o t.cells) : w.cell? ⟨b, o, none⟩ = some (.int .i64 t.e) ∧ w.cell? ⟨b, o + 1, none⟩ = some (.int .i64 t.rate) ∧ w.cell? ⟨b, o + 2, none⟩ = some (.int .i64 t.burst) ∧ w.cell? ⟨b, o + 3, none⟩ = some (.int .i64 t.lease) ∧ w.cell? ⟨b, o + 4, none⟩ = some (.int .i64 t.size) :=
  ⟨h 0 _ rfl, h 1 _ rfl, h 2 _ rfl, h 3 _ rfl, h 4 _ rfl⟩
theorem aeq_run (t u : Ans) (w : World) : (Op.equalIn 10000 31 t.agg u.agg).run Tryd.prog w = .ok (decide (t = u)) w := by
  obtain ⟨t0, t1, t2, t3, t4⟩ := t
  obtain ⟨u0, u1, u2, u3, u4⟩ := u
  have hp : Tryd.prog.stoodInHeld 31 = false := by kernel_rfl
  have hi := fun (d : Nat) (a b : Int) (w : World) => run_equalIn_int (P := Tryd.prog) w d 3 .i64 .i64 a b Tryd.underlying3
  have he := fun (d : Nat) (a b : Int) (w : World) => run_equalIn_int (P := Tryd.prog) w d 29 .i64 .i64 a b Tryd.underlying29
  simp [go_sem, hp, hi, he]
  by_cases e0 : t0 = u0 <;> by_cases e1 : t1 = u1 <;> by_cases e2 : t2 = u2 <;> by_cases e3 : t3 = u3 <;> by_cases e4 : t4 = u4 <;> simp [e0, e1, e2, e3, e4]
theorem aeql_run (t u : Ans) (w : World) : (binOp .eql 31 t.agg u.agg).run Tryd.prog w = .ok (.bool (decide (t = u))) w := by
  rw [run_eql_struct, aeq_run]; rfl

theorem aeql_same (e r b l s : Int) (w : World) : (binOp .eql 31 (.agg #[.int .i64 e, .int .i64 r, .int .i64 b, .int .i64 l, .int .i64 s]) (.agg #[.int .i64 e, .int .i64 r, .int .i64 b, .int .i64 l, .int .i64 s])).run Tryd.prog w = .ok (.bool true) w := by
  have h := aeql_run ⟨e, r, b, l, s⟩ ⟨e, r, b, l, s⟩ w
  simpa using h

theorem aneq_same (e r b l s : Int) (w : World) : (binOp .neq 31 (.agg #[.int .i64 e, .int .i64 r, .int .i64 b, .int .i64 l, .int .i64 s]) (.agg #[.int .i64 e, .int .i64 r, .int .i64 b, .int .i64 l, .int .i64 s])).run Tryd.prog w = .ok (.bool false) w := by
  have h := aeq_run ⟨e, r, b, l, s⟩ ⟨e, r, b, l, s⟩ w
  rw [run_neq_struct, h]
  simp

end Go.Proofs.YtkboojpkkhiceaaDoor

/- A Command, a Call of a history: how they lie in memory. (printed by gen_hislay.py) -/
namespace Go.Proofs.YtkboojpkkhiceaaDoor
open Go.ChangeShapes Go.WideShapes Go.ChangeAt Go.RowKit
set_option maxRecDepth 100000

structure Slc where
  a : Option Addr
  n : Nat
  c : Nat
def Slc.v (s : Slc) : Value := .slice s.a s.n s.c
structure HCmd where
  kind : Int
  client : Int
  number : Int
  tenant : Int
  rate : Int
  burst : Int
  shaper : Int
  epoch : Int
  lease : Int
  size : Int
  spent : Int
  closed : Bool
  leases : Slc
structure HCall where
  cmd : HCmd
  frm : Int
  to : Int
  ans : Ans
abbrev HCmd.cells (t : HCmd) : List Value := [.int .i8 t.kind, .int .i64 t.client, .int .i64 t.number, .int .i64 t.tenant, .int .i64 t.rate, .int .i64 t.burst, .int .i64 t.shaper, .int .i64 t.epoch, .int .i64 t.lease, .int .i64 t.size, .int .i64 t.spent, .bool t.closed, t.leases.v]
abbrev HCmd.agg (t : HCmd) : Value := .agg #[.int .i8 t.kind, .int .i64 t.client, .int .i64 t.number, .int .i64 t.tenant, .int .i64 t.rate, .int .i64 t.burst, .int .i64 t.shaper, .int .i64 t.epoch, .int .i64 t.lease, .int .i64 t.size, .int .i64 t.spent, .bool t.closed, t.leases.v]
abbrev HCall.cells (t : HCall) : List Value := [.int .i8 t.cmd.kind, .int .i64 t.cmd.client, .int .i64 t.cmd.number, .int .i64 t.cmd.tenant, .int .i64 t.cmd.rate, .int .i64 t.cmd.burst, .int .i64 t.cmd.shaper, .int .i64 t.cmd.epoch, .int .i64 t.cmd.lease, .int .i64 t.cmd.size, .int .i64 t.cmd.spent, .bool t.cmd.closed, t.cmd.leases.v, .int .i64 t.frm, .int .i64 t.to, .int .i64 t.ans.e, .int .i64 t.ans.rate, .int .i64 t.ans.burst, .int .i64 t.ans.lease, .int .i64 t.ans.size]
abbrev HCall.agg (t : HCall) : Value := .agg #[.int .i8 t.cmd.kind, .int .i64 t.cmd.client, .int .i64 t.cmd.number, .int .i64 t.cmd.tenant, .int .i64 t.cmd.rate, .int .i64 t.cmd.burst, .int .i64 t.cmd.shaper, .int .i64 t.cmd.epoch, .int .i64 t.cmd.lease, .int .i64 t.cmd.size, .int .i64 t.cmd.spent, .bool t.cmd.closed, t.cmd.leases.v, .int .i64 t.frm, .int .i64 t.to, .int .i64 t.ans.e, .int .i64 t.ans.rate, .int .i64 t.ans.burst, .int .i64 t.ans.lease, .int .i64 t.ans.size]
def layHcm : Lay Tryd.prog 26 HCmd := Lay.struct HCmd.cells 13 120 (fun _ => rfl) (by decide) (by decide) (fun x u hu => by simp at hu; rcases hu with h | h | h | h | h | h | h | h | h | h | h | h | h <;> subst h <;> rfl) (by kernel_rfl) _ Tryd.underlying26 rfl
def layCal : Lay Tryd.prog 41 HCall := Lay.struct HCall.cells 20 176 (fun _ => rfl) (by decide) (by decide) (fun x u hu => by simp at hu; rcases hu with h | h | h | h | h | h | h | h | h | h | h | h | h | h | h | h | h | h | h | h <;> subst h <;> rfl) (by kernel_rfl) _ Tryd.underlying41 rfl
theorem layHcm_val (t : HCmd) : layHcm.val t = t.agg := rfl
theorem layCal_val (t : HCall) : layCal.val t = t.agg := rfl
end Go.Proofs.YtkboojpkkhiceaaDoor

namespace Go.Proofs.YtkboojpkkhiceaaDoor
open Go.ChangeShapes Go.WideShapes Go.ChangeAt Go.RowKit
set_option maxRecDepth 100000

structure Force where
  tick : Int
  tenant : Int
  rate : Int
  burst : Int
  deriving DecidableEq
abbrev Force.cells (t : Force) : List Value := [.int .i64 t.tick, .int .i64 t.tenant, .int .i64 t.rate, .int .i64 t.burst]
abbrev Force.agg (t : Force) : Value := .agg #[.int .i64 t.tick, .int .i64 t.tenant, .int .i64 t.rate, .int .i64 t.burst]
def layFce : Lay Tryd.prog 49 Force := Lay.struct Force.cells 4 32 (fun _ => rfl) (by decide) (by decide) (fun x u hu => by simp at hu; rcases hu with h | h | h | h <;> subst h <;> rfl) (by kernel_rfl) _ Tryd.underlying49 rfl
theorem layFce_val (t : Force) : layFce.val t = t.agg := rfl
theorem cellsFce {w : World} {b o : Nat} {t : Force} (h : w.rangeAt b o t.cells) : w.cell? ⟨b, o, none⟩ = some (.int .i64 t.tick) ∧ w.cell? ⟨b, o + 1, none⟩ = some (.int .i64 t.tenant) ∧ w.cell? ⟨b, o + 2, none⟩ = some (.int .i64 t.rate) ∧ w.cell? ⟨b, o + 3, none⟩ = some (.int .i64 t.burst) :=
  ⟨h 0 _ rfl, h 1 _ rfl, h 2 _ rfl, h 3 _ rfl⟩
theorem atFce {w : World} {a : Option Addr} {ts : List Force} (h : LRow layFce w a ts) {k : Nat} (hk : k < ts.length) :
    ∃ b o, a = some ⟨b, o, none⟩ ∧ ∀ w', Below w.heap.size w w' → w'.cell? ⟨b, o + k * 4, none⟩ = some (.int .i64 ts[k].tick) ∧ w'.cell? ⟨b, o + k * 4 + 1, none⟩ = some (.int .i64 ts[k].tenant) ∧ w'.cell? ⟨b, o + k * 4 + 2, none⟩ = some (.int .i64 ts[k].rate) ∧ w'.cell? ⟨b, o + k * 4 + 3, none⟩ = some (.int .i64 ts[k].burst) := by
  obtain ⟨b, o, rfl, hc⟩ := LRow.range h hk
  exact ⟨b, o, rfl, fun w' hb => cellsFce (hc w' hb)⟩
theorem eqFce_run (t u : Force) (w : World) : (Op.equalIn 10000 49 t.agg u.agg).run Tryd.prog w = .ok (decide (t = u)) w := by
  obtain ⟨t0, t1, t2, t3⟩ := t
  obtain ⟨u0, u1, u2, u3⟩ := u
  have hp : Tryd.prog.stoodInHeld 49 = false := by kernel_rfl
  have hint := fun (d : Nat) (a b : Int) (w : World) => run_equalIn_int (P := Tryd.prog) w d 3 .i64 .i64 a b Tryd.underlying3
  simp [go_sem, hp, hint]
  by_cases e0 : t0 = u0 <;> by_cases e1 : t1 = u1 <;> by_cases e2 : t2 = u2 <;> by_cases e3 : t3 = u3 <;> simp [e0, e1, e2, e3]
theorem eqlFce_run (t u : Force) (w : World) : (binOp .eql 49 t.agg u.agg).run Tryd.prog w = .ok (.bool (decide (t = u))) w := by
  rw [run_eql_struct, eqFce_run]; rfl
theorem neqFce_run (t u : Force) (w : World) : (binOp .neq 49 t.agg u.agg).run Tryd.prog w = .ok (.bool (!decide (t = u))) w := by
  rw [run_neq_struct, eqFce_run]; rfl
end Go.Proofs.YtkboojpkkhiceaaDoor

/- Rows that rise by a key. Plain mathematics. -/
namespace Go.Proofs.YtkboojpkkhiceaaDoor
section
variable {α : Type} {key : α → Int} {good : α → Bool}

def chainOk (key : α → Int) (good : α → Bool) : Int → List α → Bool
  | _, [] => true
  | a, x :: l => decide (a < key x) && good x && chainOk key good (key x) l
def lastKey (key : α → Int) (a : Int) (l : List α) : Int := match l.getLast? with | some x => key x | none => a
theorem lastKey_take {l : List α} {k : Nat} {a : Int} (h : k < l.length) : lastKey key a (l.take (k + 1)) = key l[k] := by
  unfold lastKey; rw [List.take_succ_eq_append_getElem h, List.getLast?_concat]
theorem chainOk_append : ∀ (l m : List α) (a : Int), chainOk key good a (l ++ m) = (chainOk key good a l && chainOk key good (lastKey key a l) m)
  | [], m, a => by simp [chainOk, lastKey]
  | x :: l, m, a => by
    have e : lastKey key a (x :: l) = lastKey key (key x) l := by
      unfold lastKey
      cases l with
      | nil => simp
      | cons y l =>
        rw [List.getLast?_cons_cons]
        cases h : (y :: l).getLast? with
        | none => simp at h
        | some z => rfl
    rw [List.cons_append, chainOk, chainOk, chainOk_append l m, e]
    simp only [Bool.and_assoc]
theorem chainOk_take {l : List α} {k : Nat} {a : Int} (h : k < l.length) : chainOk key good a (l.take (k + 1)) = (chainOk key good a (l.take k) && (decide (lastKey key a (l.take k) < key l[k]) && good l[k])) := by
  rw [List.take_succ_eq_append_getElem h, chainOk_append]; simp [chainOk]
theorem chainOk_bad {l : List α} {k : Nat} {a : Int} (h : k < l.length) (hb : (decide (lastKey key a (l.take k) < key l[k]) && good l[k]) = false) : chainOk key good a l = false := by
  have h1 : chainOk key good a (l.take (k + 1)) = false := by rw [chainOk_take h, hb, Bool.and_false]
  have h2 := chainOk_append (key := key) (good := good) (l.take (k + 1)) (l.drop (k + 1)) a
  rw [List.take_append_drop, h1, Bool.false_and] at h2
  exact h2
theorem chainOk_iff : ∀ {l : List α} {a : Int}, chainOk key good a l = true ↔ (∀ x ∈ l, a < key x ∧ good x = true) ∧ l.Pairwise (fun x y => key x < key y)
  | [], a => by simp [chainOk]
  | y :: l, a => by
    rw [chainOk, Bool.and_eq_true, Bool.and_eq_true, decide_eq_true_eq, chainOk_iff, List.pairwise_cons]
    constructor
    · rintro ⟨⟨h1, h2⟩, h3, h4⟩
      refine ⟨fun x hx => ?_, fun x hx => (h3 x hx).1, h4⟩
      rcases List.mem_cons.1 hx with rfl | hx
      · exact ⟨h1, h2⟩
      · have := h3 x hx; exact ⟨by omega, this.2⟩
    · rintro ⟨h1, h2, h3⟩
      exact ⟨h1 y (List.mem_cons_self ..), fun x hx => ⟨h2 x hx, (h1 x (List.mem_cons_of_mem _ hx)).2⟩, h3⟩
theorem lastKey_ge {l : List α} {a : Int} (h : chainOk key good a l = true) : a ≤ lastKey key a l := by
  unfold lastKey
  cases hl : l.getLast? with
  | none => exact Int.le_refl _
  | some x => have := ((chainOk_iff.1 h).1 x (List.mem_of_getLast? hl)).1; simp only; omega

/-- The one of a key. -/
def findK (key : α → Int) (l : List α) (id : Int) : Option α := l.find? (fun x => key x == id)
theorem findK_mem {l : List α} {id : Int} {x : α} (h : findK key l id = some x) : x ∈ l ∧ key x = id :=
  ⟨List.mem_of_find?_eq_some h, by simpa using List.find?_some h⟩
theorem findK_at {l : List α} {id : Int} {k : Nat} (hs : l.Pairwise (fun x y => key x < key y)) (hk : k < l.length) (h : key l[k] = id) : findK key l id = some l[k] := by
  unfold findK
  rw [List.find?_eq_some_iff_getElem]
  refine ⟨by simpa using h, k, hk, rfl, fun j hj => ?_⟩
  have := (List.pairwise_iff_getElem.1 hs) j k (by omega) hk hj
  simp; omega
theorem findK_none {l : List α} {id : Int} (h : ∀ j (hj : j < l.length), key l[j] ≠ id) : findK key l id = none := by
  unfold findK
  rw [List.find?_eq_none]
  intro x hx
  obtain ⟨j, hj, rfl⟩ := List.mem_iff_getElem.1 hx
  simpa using h j hj
/-- Put into its place, in the place of the one of its key. -/
def insK (key : α → Int) (x : α) : List α → List α
  | [] => [x]
  | y :: l => if key x < key y then x :: y :: l else if key y = key x then x :: l else y :: insK key x l
/-- How many are less. -/
def lessK (key : α → Int) (id : Int) : List α → Nat
  | [] => 0
  | y :: l => if key y < id then lessK key id l + 1 else 0
theorem lessK_le (id : Int) : ∀ l : List α, lessK key id l ≤ l.length
  | [] => Nat.le_refl _
  | y :: l => by unfold lessK; split <;> simp; exact lessK_le id l
theorem lessK_lo (id : Int) : ∀ {l : List α} (j : Nat) (h : j < l.length), j < lessK key id l → key l[j] < id
  | y :: l, 0, _, hj => by unfold lessK at hj; split at hj; assumption; omega
  | y :: l, j + 1, h, hj => by
    unfold lessK at hj
    split at hj
    · exact lessK_lo id j (by simpa using h) (by omega)
    · omega
theorem lessK_hi (id : Int) : ∀ {l : List α}, l.Pairwise (fun x y => key x < key y) → ∀ (j : Nat) (h : j < l.length), lessK key id l ≤ j → id ≤ key l[j]
  | y :: l, hs, 0, _, hj => by unfold lessK at hj; split at hj; omega; simp; omega
  | y :: l, hs, j + 1, h, hj => by
    rw [List.pairwise_cons] at hs
    unfold lessK at hj
    split at hj
    · exact lessK_hi id hs.2 j (by simpa using h) (by omega)
    · have h2 : l[j]'(by simpa using h) ∈ l := List.getElem_mem _
      have := hs.1 _ h2
      simp only [List.getElem_cons_succ]
      omega
theorem insK_none {x : α} : ∀ {l : List α}, (∀ y, l[lessK key (key x) l]? = some y → key y ≠ key x) → insK key x l = l.take (lessK key (key x) l) ++ x :: l.drop (lessK key (key x) l)
  | [], _ => rfl
  | y :: l, h => by
    unfold insK lessK at *
    by_cases h1 : key y < key x
    · rw [if_neg (by omega), if_neg (by omega), if_pos h1]
      simp only [if_pos h1, List.getElem?_cons_succ] at h
      rw [insK_none h]; rfl
    · simp only [if_neg h1, List.getElem?_cons_zero, Option.some.injEq, forall_eq'] at h
      rw [if_pos (by omega), if_neg h1]; rfl
theorem insK_some {x : α} : ∀ {l : List α} {y : α}, l[lessK key (key x) l]? = some y → key y = key x → insK key x l = l.set (lessK key (key x) l) x
  | y :: l, z, h, hz => by
    unfold insK lessK at *
    by_cases h1 : key y < key x
    · rw [if_neg (by omega), if_neg (by omega), if_pos h1]
      simp only [if_pos h1, List.getElem?_cons_succ] at h
      rw [insK_some h hz]; rfl
    · simp only [if_neg h1, List.getElem?_cons_zero, Option.some.injEq] at h
      subst h
      rw [if_neg (by omega), if_pos hz, if_neg h1]; rfl
  | [], _, h, _ => by simp at h
theorem mem_insK {x y : α} : ∀ {l : List α}, y ∈ insK key x l → y = x ∨ y ∈ l
  | [], h => by simp [insK] at h; exact .inl h
  | z :: l, h => by
    unfold insK at h
    split at h
    · simpa using h
    · split at h
      · rcases List.mem_cons.1 h with h | h
        · exact .inl h
        · exact .inr (List.mem_cons_of_mem _ h)
      · rcases List.mem_cons.1 h with h | h
        · exact .inr (by rw [h]; exact List.mem_cons_self ..)
        · exact (mem_insK h).imp id (List.mem_cons_of_mem _)
theorem insK_sorted {x : α} : ∀ {l : List α}, l.Pairwise (fun x y => key x < key y) → (insK key x l).Pairwise (fun x y => key x < key y)
  | [], _ => by simp [insK]
  | z :: l, h => by
    rw [List.pairwise_cons] at h
    unfold insK
    split
    · rename_i hlt
      rw [List.pairwise_cons, List.pairwise_cons]
      refine ⟨fun y hy => ?_, h⟩
      rcases List.mem_cons.1 hy with rfl | hy
      · exact hlt
      · have := h.1 y hy; omega
    · split
      · rename_i he
        rw [List.pairwise_cons]
        exact ⟨fun y hy => by have := h.1 y hy; omega, h.2⟩
      · rename_i h1 h2
        rw [List.pairwise_cons]
        refine ⟨fun y hy => ?_, insK_sorted h.2⟩
        rcases mem_insK hy with rfl | hy
        · omega
        · exact h.1 y hy
theorem chainOk_insK {x : α} {l : List α} {a : Int} (h : chainOk key good a l = true) (hx : a < key x) (hg : good x = true) : chainOk key good a (insK key x l) = true := by
  obtain ⟨h1, h2⟩ := chainOk_iff.1 h
  refine chainOk_iff.2 ⟨fun y hy => ?_, insK_sorted h2⟩
  rcases mem_insK hy with rfl | hy
  · exact ⟨hx, hg⟩
  · exact h1 y hy
theorem find_insK_self {x : α} : ∀ (l : List α), l.Pairwise (fun x y => key x < key y) → findK key (insK key x l) (key x) = some x
  | [], _ => by simp [insK, findK]
  | z :: l, h => by
    rw [List.pairwise_cons] at h
    unfold insK
    split
    · simp [findK]
    · split
      · simp [findK]
      · rename_i h1 h2
        have := find_insK_self l h.2 (x := x)
        unfold findK at this ⊢
        rw [List.find?_cons_of_neg (by simpa using h2)]
        exact this
theorem find_insK_other {x : α} {id : Int} (h : key x ≠ id) : ∀ l : List α, findK key (insK key x l) id = findK key l id
  | [] => by simp [insK, findK, h]
  | z :: l => by
    have ih := find_insK_other h l
    unfold insK
    split
    · unfold findK; rw [List.find?_cons_of_neg (by simpa using h)]
    · split
      · rename_i h1 h2
        unfold findK
        rw [List.find?_cons_of_neg (by simpa using h), List.find?_cons_of_neg (by simp; omega)]
      · unfold findK at ih ⊢
        rw [List.find?_cons, List.find?_cons, ih]
theorem insK_length (x : α) : ∀ l : List α, (insK key x l).length ≤ l.length + 1
  | [] => by simp [insK]
  | z :: l => by
    have := insK_length x l
    unfold insK
    split
    · simp
    · split <;> simp; omega
/-- The document's way to put one in: over the row, once. -/
def putStep (key : α → Int) (x : α) (acc : List α × Bool) (y : α) : List α × Bool :=
  ((if acc.2 = false ∧ key x ≤ key y then acc.1 ++ [x] else acc.1) ++ (if key y = key x then [] else [y]), acc.2 || decide (key x ≤ key y))
def putRef (key : α → Int) (x : α) (l : List α) : List α := if (l.foldl (putStep key x) ([], false)).2 then (l.foldl (putStep key x) ([], false)).1 else (l.foldl (putStep key x) ([], false)).1 ++ [x]
theorem putStep_true {x : α} : ∀ (l pre : List α), (∀ y ∈ l, key y ≠ key x) → l.foldl (putStep key x) (pre, true) = (pre ++ l, true)
  | [], pre, _ => by simp
  | y :: l, pre, h => by
    rw [List.foldl_cons]
    have hy := h y (List.mem_cons_self ..)
    have : putStep key x (pre, true) y = (pre ++ [y], true) := by simp [putStep, hy]
    rw [this, putStep_true l _ fun z hz => h z (List.mem_cons_of_mem _ hz)]
    simp
theorem putStep_false {x : α} : ∀ (l pre : List α), l.Pairwise (fun x y => key x < key y) → (if (l.foldl (putStep key x) (pre, false)).2 then (l.foldl (putStep key x) (pre, false)).1 else (l.foldl (putStep key x) (pre, false)).1 ++ [x]) = pre ++ insK key x l
  | [], pre, _ => by simp [insK]
  | y :: l, pre, h => by
    rw [List.pairwise_cons] at h
    rw [List.foldl_cons]
    unfold insK
    by_cases h1 : key x < key y
    · have : putStep key x (pre, false) y = (pre ++ [x, y], true) := by
        have h2 : key x ≤ key y := by omega
        have h3 : ¬ key y = key x := by omega
        simp [putStep, h2, h3]
      rw [this, putStep_true l _ fun z hz => by have := h.1 z hz; omega, if_pos h1]
      simp
    · rw [if_neg h1]
      by_cases h2 : key y = key x
      · have : putStep key x (pre, false) y = (pre ++ [x], true) := by simp [putStep, h2]
        rw [this, putStep_true l _ fun z hz => by have := h.1 z hz; omega, if_pos h2]
        simp
      · have : putStep key x (pre, false) y = (pre ++ [y], false) := by
          have h3 : ¬ key x ≤ key y := by omega
          simp [putStep, h2, h3]
        rw [this, if_neg h2]
        have := putStep_false l (pre ++ [y]) h.2 (x := x)
        rw [this]; simp
theorem putRef_eq {x : α} {l : List α} (h : l.Pairwise (fun x y => key x < key y)) : putRef key x l = insK key x l := by
  have := putStep_false l [] h (x := x)
  rw [List.nil_append] at this
  exact this
end
end Go.Proofs.YtkboojpkkhiceaaDoor

/- History in plain: tables, what they answer, orders that fit. -/
namespace Go.Proofs.YtkboojpkkhiceaaDoor

def mayB (rate burst : Int) : Bool := decide (0 ≤ rate ∧ rate ≤ 1000000 ∧ 0 ≤ burst ∧ burst ≤ 1000000)
def asksC (x : HCmd) : Bool := decide (1 ≤ x.kind ∧ x.kind ≤ 3 ∧ 1 ≤ x.tenant ∧ x.tenant ≤ 16)
def goodT (f : Force) : Bool := decide (f.tick = 0 ∧ f.tenant ≤ 16) && mayB f.rate f.burst
def tabOk (t : List Force) : Bool := chainOk Force.tenant goodT 0 t
def doF (t : List Force) (x : HCmd) : List Force × Ans :=
  if tabOk t = true ∧ asksC x = true then
    (if x.kind = 1 then (if mayB x.rate x.burst = true then (insK Force.tenant ⟨0, x.tenant, x.rate, x.burst⟩ t, ⟨0, x.rate, x.burst, 0, 0⟩) else (t, Ans.err 160))
    else match findK Force.tenant t x.tenant with
      | none => (t, Ans.err 161)
      | some f => if x.kind = 2 then (t, ⟨0, f.rate, f.burst, 0, 0⟩) else (t.filter (fun y => decide (y.tenant ≠ x.tenant)), Ans.err 0))
  else (t, Ans.err 2)
def callOk (x : HCall) : Bool := asksC x.cmd && decide (1 ≤ x.frm ∧ (x.to = 0 ∨ x.frm < x.to))
def chkL (l : List HCall) : Bool := decide (l.length ≤ 12) && l.all callOk
theorem do_bad {t : List Force} {x : HCmd} (h : ¬ (tabOk t = true ∧ asksC x = true)) : doF t x = (t, Ans.err 2) := if_neg h
theorem do_rate {t : List Force} {x : HCmd} (h : tabOk t = true ∧ asksC x = true) (h1 : x.kind = 1) (h2 : mayB x.rate x.burst = false) : doF t x = (t, Ans.err 160) := by
  unfold doF; rw [if_pos h, if_pos h1, if_neg (by rw [h2]; exact Bool.false_ne_true)]
theorem do_put {t : List Force} {x : HCmd} (h : tabOk t = true ∧ asksC x = true) (h1 : x.kind = 1) (h2 : mayB x.rate x.burst = true) : doF t x = (insK Force.tenant ⟨0, x.tenant, x.rate, x.burst⟩ t, ⟨0, x.rate, x.burst, 0, 0⟩) := by
  unfold doF; rw [if_pos h, if_pos h1, if_pos h2]
theorem do_none {t : List Force} {x : HCmd} (h : tabOk t = true ∧ asksC x = true) (h1 : ¬ x.kind = 1) (h2 : findK Force.tenant t x.tenant = none) : doF t x = (t, Ans.err 161) := by
  unfold doF; rw [if_pos h, if_neg h1, h2]
theorem do_get {t : List Force} {x : HCmd} {f : Force} (h : tabOk t = true ∧ asksC x = true) (h1 : x.kind = 2) (h2 : findK Force.tenant t x.tenant = some f) : doF t x = (t, ⟨0, f.rate, f.burst, 0, 0⟩) := by
  unfold doF; rw [if_pos h, if_neg (by omega), h2]; simp only; rw [if_pos h1]
theorem do_del {t : List Force} {x : HCmd} {f : Force} (h : tabOk t = true ∧ asksC x = true) (h1 : ¬ x.kind = 1) (h1' : ¬ x.kind = 2) (h2 : findK Force.tenant t x.tenant = some f) : doF t x = (t.filter (fun y => decide (y.tenant ≠ x.tenant)), Ans.err 0) := by
  unfold doF; rw [if_pos h, if_neg h1, h2]; simp only; rw [if_neg h1']
theorem tabOk_len {t : List Force} (h : tabOk t = true) : t.length ≤ 16 := by
  have h2 := chainOk_iff.1 h
  have key : ∀ (t : List Force) (a : Int), (∀ x ∈ t, a < x.tenant ∧ x.tenant ≤ 16) → t.Pairwise (fun x y => x.tenant < y.tenant) → a ≤ 16 → (t.length : Int) ≤ 16 - a := by
    intro t
    induction t with
    | nil => intro a _ _ ha; simp; omega
    | cons x t ih =>
      intro a h1 h3 _
      rw [List.pairwise_cons] at h3
      have hx := h1 x (List.mem_cons_self ..)
      have := ih x.tenant (fun y hy => ⟨h3.1 y hy, (h1 y (List.mem_cons_of_mem _ hy)).2⟩) h3.2 hx.2
      simp only [List.length_cons]; omega
  have := key t 0 (fun x hx => ⟨(h2.1 x hx).1, by have := (h2.1 x hx).2; unfold goodT at this; simp only [Bool.and_eq_true, decide_eq_true_eq] at this; exact this.1.2⟩) h2.2 (by decide)
  omega
theorem tabOk_filter {t : List Force} (p : Force → Bool) (h : tabOk t = true) : tabOk (t.filter p) = true := by
  have h2 := chainOk_iff.1 h
  exact chainOk_iff.2 ⟨fun x hx => h2.1 x (List.mem_filter.1 hx).1, h2.2.filter _⟩
theorem tabOk_do {t : List Force} {x : HCmd} (h : tabOk t = true) : tabOk (doF t x).1 = true := by
  unfold doF
  split
  · rename_i h1
    have hx := of_decide_eq_true h1.2
    split
    · split
      · rename_i h3; exact chainOk_insK h (by show (0 : Int) < x.tenant; omega) (by unfold goodT; rw [Bool.and_eq_true]; exact ⟨decide_eq_true ⟨rfl, hx.2.2.2⟩, h3⟩)
      · exact h
    · split
      · exact h
      · split
        · exact h
        · exact tabOk_filter _ h
  · exact h
end Go.Proofs.YtkboojpkkhiceaaDoor

/- Blocks of the call's own known whole: copies into them; a new row out of an old one's beginning. -/
namespace Go.Proofs.YtkboojpkkhiceaaDoor
open Go.ChangeShapes Go.WideShapes Go.ChangeAt Go.RowKit
set_option maxRecDepth 100000

section
variable {P : Program} {e : TypeId} {α : Type}

theorem run_copy_whole (L : Lay P e α) {t : TypeId} (ht : P.underlying t = some (.slice e)) (ty : TypeId) (w : World) (g o : Nat) (A M R cs : List Value) (te : TypeId) (hg : w.heap[g]? = some (.cells (A ++ (M ++ R)).toArray te (0, 0))) (ho : A.length = o)
    (hM : M.length = cs.length) (h1 : ∀ u ∈ cs, u.oneCell' = true) (dn dc sn sc m : Nat) (sp : Addr) (hm : Nat.min sn dn = m) (hl : cs.length = m * L.size) (hsrc : ∀ j v, cs[j]? = some v → w.cell? (sp.add j) = some v) :
    (Builtin.copy_ #[t, t] ty #[.slice (some ⟨g, o, none⟩) dn dc, .slice (some sp) sn sc]).run P w = .ok (goInt m) (w.setRow g (A ++ (cs ++ R)).toArray) := by
  obtain ⟨i, z, h2, _, h3, _⟩ := L.parts
  have hsz : (sizeOf e).run P w = .ok L.size w := by simp [sizeOf, typeInfo, h2, h3]
  have hfc := run_firstCells_some (P := P) (w := w) L.size m sp sn sc cs hl hsrc
  have hst := run_storeCells_at (P := P) g o te cs 0 (A ++ (M ++ R)).toArray w hg (by simp; omega) h1
  have hrow : ((A ++ (M ++ R)).toArray.toList.take (o + 0) ++ cs ++ (A ++ (M ++ R)).toArray.toList.drop (o + 0 + cs.length)) = A ++ (cs ++ R) := by
    rw [List.toList_toArray, Nat.add_zero, ← ho, List.take_left, ← hM, ← List.drop_drop, List.drop_left, List.drop_left, List.append_assoc]
  rw [hrow] at hst
  simp only [Builtin.copy_]
  simp [run_underlying ht, Builtin.lenOf, hm, hsz, hfc, hst]
theorem below_setRow' {B g : Nat} {w0 w : World} (hb : Below B w0 w) (hBg : B ≤ g) (cs : Array Value) : Below B w0 (w.setRow g cs) :=
  hb.trans ⟨rfl, rfl, rfl, by simp [World.setRow], fun k hk => setRow_other w g k cs (by omega)⟩

theorem wpList_copy_whole {ops : Array Oper} {rest : List Oper} {op : Oper} {a : Act} {w : World} {Q : Exit → Act → World → Prop} (L : Lay P e α) {t : TypeId} (ht : P.underlying t = some (.slice e)) (hgd : op.guard = none) (d s : Operand)
    (ho : op.op = .call { callee := .builtin .copy, args := #[d, s], argTypes := #[t, t] }) (g o : Nat) (A M R cs : List Value) (te : TypeId) (hg : w.heap[g]? = some (.cells (A ++ (M ++ R)).toArray te (0, 0))) (hoA : A.length = o)
    (hM : M.length = cs.length) (h1 : ∀ u ∈ cs, u.oneCell' = true) (dn dc sn sc m : Nat) (sp : Addr) (hm : Nat.min sn dn = m) (hl : cs.length = m * L.size) (hsrc : ∀ j v, cs[j]? = some v → w.cell? (sp.add j) = some v)
    (hd : a.eval d = .slice (some ⟨g, o, none⟩) dn dc) (hs : a.eval s = .slice (some sp) sn sc)
    (h : ∀ w', w'.heap[g]? = some (.cells (A ++ (cs ++ R)).toArray te (0, 0)) → (∀ B, B ≤ g → Below B w w') → (∀ k, k ≠ g → w'.heap[k]? = w.heap[k]?) → w'.heap.size = w.heap.size → wpList P ops Q rest (a.put op.dst (goInt m)) w') : wpList P ops Q (op :: rest) a w :=
  wpList_plain hgd fun K hK => by
    have hrun := run_copy_whole L ht op.type w g o A M R cs te hg hoA hM h1 dn dc sn sc m sp hm hl hsrc
    unfold Oper.wp execOp
    simp only [ho, resolve, invoke, builtin, Sem.run_bind, Sem.run_pure, Result.andThen_ok, List.map_toArray, List.map_cons, List.map_nil, hd, hs, hrun]
    exact hK _ _ (h _ (setRow_heap w g _ _ te _ hg) (fun B hB => below_setRow' (Below.refl _ _) hB _) (fun k hk => setRow_other w g k _ hk) (by simp [World.setRow]))

/-- append(s[:i], make(S, k)...) where there is no room: a new row: what stood first, then zeros. -/
theorem run_append_zeros (L : Lay P e α) {t tn : TypeId} (ht : P.underlying t = some (.slice e)) (htn : P.underlying tn = some (.int .i64)) (ty : TypeId) (w : World) (b o i c k : Nat) (A : List Value) (hA : A.length = i * L.size)
    (hsrc : ∀ j v, A[j]? = some v → w.cell? ⟨b, o + j, none⟩ = some v) (hk : 0 < k) (hg : c < i + k) (hby : (i + k) * L.bytes ≤ 140737488355328) :
    ∃ w' g' c' Z, (Builtin.append_ #[t, tn] ty #[.slice (some ⟨b, o, none⟩) i c, .int .i64 k]).run P w = .ok (.slice (some ⟨g', 0, none⟩) (i + k) c') w' ∧ g' = w.heap.size ∧ i + k ≤ c' ∧ c' ≤ maxLen ∧
      w'.heap[g']? = some (.cells (A ++ Z).toArray e (0, 0)) ∧ (A ++ Z).length = c' * L.size ∧ Below w.heap.size w w' ∧ w'.heap.size = w.heap.size + 1 := by
  obtain ⟨ti, z, h1, h2, h3, h4, h5, _⟩ := L.parts
  have hb := L.bpos
  have hsmall : i + k ≤ 140737488355328 := Nat.le_trans (Nat.le_mul_of_pos_right _ hb) hby
  have hold : (Builtin.firstCells ti.size i (.slice (some ⟨b, o, none⟩) i c)).run P w.drew = .ok A.toArray w.drew := by
    rw [h3]
    exact run_firstCells_some (P := P) (w := w.drew) L.size i ⟨b, o, none⟩ i c A hA (fun j v hj => by rw [Addr.add_mid]; exact hsrc j v hj)
  have hrun := Lib.run_append_grow_zeros (P := P) w t tn ty e ti z .i64 .i64 ht htn h1 h2 (some ⟨b, o, none⟩) i c A hold k hk (by rw [h3]; exact L.pos) hg (by omega)
    (by rw [h4]; have : k * L.bytes ≤ (i + k) * L.bytes := Nat.mul_le_mul_right _ (by omega); omega) (by rw [h4]; exact growslice_fits hg hby)
  have hle : i + k ≤ grownCap w (i + k) c e := by simp [grownCap, Question.cut]
  have hmax := grownCap_le_maxLen w (i + k) c e (by unfold maxLen; omega)
  refine ⟨_, w.heap.size, grownCap w (i + k) c e, (Builtin.zeroCells z.cells k ++ Builtin.zeroCells z.cells (grownCap w (i + k) c e - (i + k))).toList, hrun, rfl, hle, hmax, ?_, ?_, ?_, ?_⟩
  · have := heap_alloc_new w.drew (.cells (A.toArray ++ Builtin.zeroCells z.cells k ++ Builtin.zeroCells z.cells (grownCap w (i + k) c e - (i + k))) e)
    have h6 : w.drew.heap.size = w.heap.size := rfl
    rw [h6] at this
    rw [this]
    congr 2
    simp
  · simp [size_zeroCells, h5, hA]
    rw [← Nat.add_mul, ← Nat.add_mul]
    congr 1
    omega
  · exact ((Below.refl w.heap.size w).drew).alloc (Nat.le_refl _) _
  · simp
/-- out = append(out, y), y in a new row of one. -/
theorem wpList_app1 {ops : Array Oper} {rest : List Oper} {op : Oper} {ac : Act} {w : World} {cs : Array Value} {te : TypeId} {Q : Exit → Act → World → Prop} (L : Lay P e α) {t : TypeId} (ht : P.underlying t = some (.slice e)) (hgd : op.guard = none) (s x : Operand)
    (ho : op.op = .call { callee := .builtin .append, args := #[s, x], argTypes := #[t, t] }) (B : Nat) (a : Option Addr) (n c : Nat) (xs : List α) (hs : ac.eval s = .slice a n c) (hown : w.ownsRow B e L.size (.slice a n c) n (xs.flatMap L.cells))
    (y : α) (hcs : cs.toList = L.cells y) (hx : ac.eval x = .slice (some ⟨w.heap.size, 0, none⟩) 1 1) (hby : (n + 1) * L.bytes ≤ 140737488355328) (hB : B ≤ w.heap.size)
    (h : ∀ a' c' w', w'.ownsRow B e L.size (.slice a' (n + 1) c') (n + 1) ((xs ++ [y]).flatMap L.cells) → Below B w w' → wpList P ops Q rest (ac.put op.dst (.slice a' (n + 1) c')) w') : wpList P ops Q (op :: rest) ac (w.alloc (.cells cs te)) := by
  refine wpList_app (L.elem ht) hgd s x ho B (.slice a n c) n _ hs (hown.alloc _) (some ⟨w.heap.size, 0, none⟩) 1 1 (L.cells y) hx (by rw [L.len, Nat.one_mul]) (by rw [← hcs]; exact Row.new _ _ _ _) (L.one y) hby (Nat.le_trans hB (by simp)) ?_
  intro a' c' w' ho2 hg2
  refine h a' c' w' ?_ (Below.app ((Below.refl B w).alloc hB _) (hown.alloc _) hg2 (Nat.le_trans hB (by simp)))
  rw [List.flatMap_append, List.flatMap_cons, List.flatMap_nil, List.append_nil]
  exact ho2
/-- A thing read, its value spelled as one likes. -/
theorem wpList_load_as {ops : Array Oper} {rest : List Oper} {op : Oper} {a : Act} {w : World} {Q : Exit → Act → World → Prop} (L : Lay P e α) (hgd : op.guard = none) (x : Operand) (ho : op.op = .load e x)
    (b o : Nat) (hx : a.eval x = .pointer (some ⟨b, o, none⟩)) (y : α) (v : Value) (hv : L.val y = v) (hc : w.rangeAt b o (L.cells y)) (h : wpList P ops Q rest (a.put op.dst v) w) : wpList P ops Q (op :: rest) a w := by
  subst hv
  exact wpList_load_lay L hgd x ho b o hx y hc h
/-- A thing put into a variable: the world behind it is not looked into. -/
theorem wpList_store_there {ops : Array Oper} {rest : List Oper} {op : Oper} {a : Act} {w : World} {Q : Exit → Act → World → Prop} (L : Lay P e α) (hgd : op.guard = none) (x y : Operand) (ho : op.op = .store e x y)
    (b o : Nat) (z : α) (hx : a.eval x = .pointer (some ⟨b, o, none⟩)) (hy : a.eval y = L.val z) (ht : w.there b o L.size)
    (h : ∀ w', w'.rangeAt b o (L.cells z) → w'.there b o L.size → (∀ B, B ≤ b → Below B w w') → w'.heap.size = w.heap.size → wpList P ops Q rest (a.put op.dst undef) w') : wpList P ops Q (op :: rest) a w :=
  wpList_store_lay L hgd x y ho b o z hx hy ht (h _ (range_put z ht) (World.there_setCells ht _ _ _) (fun _ hB => Below.setCells hB _ _ (Below.refl _ _)) (setCells_size _ _ _ _))
theorem box_there {w w' : World} {cs : Array Value} {t : TypeId} (hb : Below (w.alloc (.cells cs t)).heap.size (w.alloc (.cells cs t)) w') : w'.there w.heap.size 0 cs.size :=
  there_below (there_new w cs t) hb (by simp)
theorem box_range {w w' : World} {cs : List Value} {t : TypeId} (hb : Below (w.alloc (.cells cs.toArray t)).heap.size (w.alloc (.cells cs.toArray t)) w') : w'.rangeAt w.heap.size 0 cs := fun j v hv => by
  rw [Nat.zero_add, own_cells hb j, List.getElem?_toArray, hv]
theorem Can.alloc {w : World} {B : Nat} {t : TypeId} {size : Nat} {a : Option Addr} {n c : Nat} {xs : List Value} (h : Can w B t size a n c xs) (o : Obj) : Can (w.alloc o) B t size a n c xs :=
  ⟨h.1, h.2.1, h.2.2.imp (fun ⟨h1, h2⟩ => ⟨h1, Row.alloc h2 o⟩) (fun h => h.alloc o)⟩
theorem own_whole {L : Lay P e α} {w : World} {B g n c : Nat} {A : List Value} (h : w.ownsRow B e L.size (.slice (some ⟨g, 0, none⟩) n c) n A) : B ≤ g ∧ n ≤ c ∧ c ≤ maxLen ∧ A.length = n * L.size ∧ ∃ D, w.heap[g]? = some (.cells (A ++ D).toArray e (0, 0)) ∧ (A ++ D).length = c * L.size := by
  obtain ⟨hl, h⟩ := h
  rcases h with ⟨hv, _⟩ | ⟨g', cap, cur, hv, hB, hg, hnc, hm, hs, ht⟩
  · cases hv
  · simp only [Value.slice.injEq, Option.some.injEq, Addr.mk.injEq, and_true] at hv
    obtain ⟨rfl, _, rfl⟩ := hv
    refine ⟨hB, hnc, hm, hl, cur.toList.drop (n * L.size), ?_, ?_⟩
    · rw [← ht, List.take_append_drop]; simpa using hg
    · rw [← ht, List.take_append_drop]; simpa using hs
theorem own_of_whole {L : Lay P e α} {w : World} {B g n c : Nat} {A D : List Value} (hB : B ≤ g) (hnc : n ≤ c) (hm : c ≤ maxLen) (hA : A.length = n * L.size) (hg : w.heap[g]? = some (.cells (A ++ D).toArray e (0, 0))) (hs : (A ++ D).length = c * L.size) :
    w.ownsRow B e L.size (.slice (some ⟨g, 0, none⟩) n c) n A :=
  ⟨hA, .inr ⟨g, c, (A ++ D).toArray, rfl, hB, hg, hnc, hm, by simpa using hs, by rw [List.toList_toArray, ← hA, List.take_left]⟩⟩
end
end Go.Proofs.YtkboojpkkhiceaaDoor

/- Variables of the call's own; one block turned, all others stand (printed by gen_bx.py out of other texts). -/
namespace Go.Proofs.YtkboojpkkhiceaaDoor
open Go.ChangeShapes Go.WideShapes Go.ChangeAt Go.RowKit
set_option maxRecDepth 100000

theorem setCells_keep (g : Nat) : ∀ (vs : List Value) (o : Nat) (w : World) (k : Nat), k ≠ g → (w.setCells g o vs).heap[k]? = w.heap[k]?
  | [], _, _, _, _ => rfl
  | v :: vs, o, w, k, h => by
    rw [World.setCells, setCells_keep g vs (o + 1) _ k h]
    exact Below.heap_setCell _ _ _ _ (fun e => h e)
theorem mid_alloc' {w w' : World} {o : Obj} (hb : Below (w.alloc o).heap.size (w.alloc o) w') : Below w.heap.size w w' := ((Below.refl w.heap.size w).alloc (Nat.le_refl _) o).trans (hb.mono (by simp))
/-- An operation whose guard lets it be done. -/
theorem wpList_strip {P : Program} {ops : Array Oper} {Q : Exit → Act → World → Prop} {a : Act} {w : World} {rest : List Oper} {o : Oper}
    (hw : Region.wanted o (yielded ops a.tmps) = true) (h : wpList P ops Q ({ o with guard := none } :: rest) a w) : wpList P ops Q (o :: rest) a w := by
  unfold wpList at h ⊢
  rw [if_pos hw]
  rw [if_pos (by rfl)] at h
  exact h
/-- Of the blocks that stood, the one alone may have turned. -/
structure Only (g : Nat) (w w' : World) : Prop where
  os : w'.os = w.os
  tape : w'.tape = w.tape
  output : w'.output = w.output
  size : w.heap.size ≤ w'.heap.size
  block : ∀ k, k < w.heap.size → k ≠ g → w'.heap[k]? = w.heap[k]?
theorem Only.refl (g : Nat) (w : World) : Only g w w := ⟨rfl, rfl, rfl, Nat.le_refl _, fun _ _ _ => rfl⟩
theorem Only.trans {g : Nat} {w w' w'' : World} (h : Only g w w') (h2 : Only g w' w'') : Only g w w'' :=
  ⟨h2.os.trans h.os, h2.tape.trans h.tape, h2.output.trans h.output, Nat.le_trans h.size h2.size, fun k h1 h3 => (h2.block k (Nat.lt_of_lt_of_le h1 h.size) h3).trans (h.block k h1 h3)⟩
theorem Only.of {g : Nat} {w w' : World} (h : Below w.heap.size w w') : Only g w w' := ⟨h.os, h.tape, h.output, h.size, fun k hk _ => h.block k hk⟩
theorem Only.next {g : Nat} {w w' w'' : World} (h : Only g w w') (h2 : Below w'.heap.size w' w'') : Only g w w'' := h.trans (.of h2)
theorem Only.put {g : Nat} {w w' w'' : World} (h : Only g w w') (h2 : ∀ B, B ≤ g → Below B w' w'') (hk : ∀ k, k ≠ g → w''.heap[k]? = w'.heap[k]?) : Only g w w'' :=
  h.trans ⟨(h2 0 (Nat.zero_le _)).os, (h2 0 (Nat.zero_le _)).tape, (h2 0 (Nat.zero_le _)).output, (h2 0 (Nat.zero_le _)).size, fun k _ hne => hk k hne⟩
theorem Only.below {g : Nat} {w w' : World} (h : Only g w w') {B : Nat} (hB : B ≤ g) (hs : B ≤ w.heap.size) : Below B w w' := ⟨h.os, h.tape, h.output, h.size, fun k hk => h.block k (by omega) (by omega)⟩
/-- The blocks from B on, below E, stand as they stood. -/
structure Mid (B E : Nat) (w w' : World) : Prop where
  size : w.heap.size ≤ w'.heap.size
  keep : ∀ k, B ≤ k → k < E → w'.heap[k]? = w.heap[k]?
theorem Mid.refl (B E : Nat) (w : World) : Mid B E w w := ⟨Nat.le_refl _, fun _ _ _ => rfl⟩
theorem Mid.trans {B E : Nat} {w w' w'' : World} (h : Mid B E w w') (h2 : Mid B E w' w'') : Mid B E w w'' := ⟨Nat.le_trans h.size h2.size, fun k h1 h3 => (h2.keep k h1 h3).trans (h.keep k h1 h3)⟩
theorem Mid.below {B E E' : Nat} {w w' : World} (h : Below E' w w') (hE : E ≤ E') : Mid B E w w' := ⟨h.size, fun k _ h1 => h.block k (by omega)⟩
theorem Mid.next {B E E' : Nat} {w w' w'' : World} (h : Mid B E w w') (h2 : Below E' w' w'') (hE : E ≤ E') : Mid B E w w'' := h.trans (.below h2 hE)
theorem Mid.setCell {B E : Nat} {w w' : World} (h : Mid B E w w') (p : Addr) (v : Value) (hp : p.block < B ∨ E ≤ p.block) : Mid B E w (w'.setCell p v) :=
  h.trans ⟨by simp, fun k h1 h2 => Below.heap_setCell _ _ _ _ (by omega)⟩
theorem Mid.other {B E : Nat} {w w' w'' : World} {g : Nat} (h : Mid B E w w') (hk : ∀ k, k ≠ g → w''.heap[k]? = w'.heap[k]?) (hs : w''.heap.size = w'.heap.size) (hg : g < B ∨ E ≤ g) : Mid B E w w'' :=
  h.trans ⟨by omega, fun k h1 h2 => hk k (by omega)⟩
theorem Mid.drew {B E : Nat} {w w' : World} (h : Mid B E w w') : Mid B E w w'.drew := ⟨h.size, h.keep⟩
theorem Mid.alloc {B E : Nat} {w w' : World} (h : Mid B E w w') (hE : E ≤ w'.heap.size) (o : Obj) : Mid B E w (w'.alloc o) := h.trans (.below ((Below.refl _ _).alloc (Nat.le_refl _) o) hE)
theorem Mid.up {B B' E : Nat} {w w' : World} (h : Mid B E w w') (hB : B ≤ B') : Mid B' E w w' := ⟨h.size, fun k h1 h2 => h.keep k (by omega) h2⟩

theorem own_mid {w w' : World} {B E B0 : Nat} {e : TypeId} {size : Nat} {v : Value} {n : Nat} {xs : List Value} (h : w.ownsRow B0 e size v n xs) (hm : Mid B E w w') (hB : B ≤ B0) (hE : w.heap.size ≤ E) : w'.ownsRow B0 e size v n xs := by
  obtain ⟨h1, h2⟩ := h
  refine ⟨h1, ?_⟩
  rcases h2 with h2 | ⟨g, cap, cur, h3, h4, h5, h6⟩
  · exact .inl h2
  · refine .inr ⟨g, cap, cur, h3, h4, ?_, h6⟩
    rw [hm.keep g (by omega) (by have := (Array.getElem?_eq_some_iff.1 h5).1; omega)]; exact h5
theorem row_mid {w w' : World} {B E : Nat} {a : Option Addr} {xs : List Value} (h : Row w a xs) (hm : Mid B E w w') (hn : Near B none a) (hE : w.heap.size ≤ E) : Row w' a xs := by
  by_cases h0 : xs = []
  · exact .inl h0
  · rcases h with h | ⟨b, o, rfl, hc⟩
    · exact absurd h h0
    · have hlt := Row.lt (.inr ⟨b, o, rfl, hc⟩) h0
      have hb : B ≤ b := by
        rcases hn b o none rfl with h1 | ⟨_, _, h1⟩
        · exact h1
        · cases h1
      exact .inr ⟨b, o, rfl, fun i hi => by rw [World.cell?_of_block (w := w) (hm.keep b hb (by omega))]; exact hc i hi⟩
theorem can_mid {w w' : World} {B E B0 : Nat} {e : TypeId} {size : Nat} {a : Option Addr} {n c : Nat} {xs : List Value} (h : Can w B0 e size a n c xs) (hm : Mid B E w w') (hn : Near B none a) (hB : B ≤ B0) (hE : w.heap.size ≤ E) : Can w' B0 e size a n c xs :=
  ⟨h.1, h.2.1, h.2.2.imp (fun ⟨h1, h2⟩ => ⟨h1, row_mid h2 hm hn hE⟩) (fun h => own_mid h hm hB hE)⟩

/-- A thing put into a variable: the world behind it is not looked into; other blocks stand. -/
theorem wpList_store_keep {P : Program} {e : TypeId} {α : Type} {ops : Array Oper} {rest : List Oper} {op : Oper} {a : Act} {w : World} {Q : Exit → Act → World → Prop} (L : Lay P e α) (hgd : op.guard = none) (x y : Operand) (ho : op.op = .store e x y)
    (b o : Nat) (z : α) (hx : a.eval x = .pointer (some ⟨b, o, none⟩)) (hy : a.eval y = L.val z) (ht : w.there b o L.size)
    (h : ∀ w', w'.rangeAt b o (L.cells z) → w'.there b o L.size → (∀ B, B ≤ b → Below B w w') → w'.heap.size = w.heap.size → (∀ k, k ≠ b → w'.heap[k]? = w.heap[k]?) → wpList P ops Q rest (a.put op.dst undef) w') : wpList P ops Q (op :: rest) a w :=
  wpList_store_lay L hgd x y ho b o z hx hy ht (h _ (range_put z ht) (World.there_setCells ht _ _ _) (fun _ hB => Below.setCells hB _ _ (Below.refl _ _)) (setCells_size _ _ _ _) (fun k hk => setCells_keep b _ _ _ k hk))
structure Box (w : World) (g : Nat) (cs : List Value) : Prop where
  range : w.rangeAt g 0 cs
  there : w.there g 0 cs.length
theorem Box.cell {w : World} {g : Nat} {cs : List Value} (h : Box w g cs) {j : Nat} {v : Value} (hj : cs[j]? = some v) : w.cell? ⟨g, j, none⟩ = some v := by
  have := h.range j v hj
  rw [Nat.zero_add] at this; exact this
theorem Box.froz {w : World} {g : Nat} {cs : List Value} (h : Box w g cs) {j : Nat} (hj : j < cs.length) : w.frozen? ⟨g, j, none⟩ = false := by
  have := (h.there j hj).2
  rw [Nat.zero_add] at this; exact this
theorem Box.of_alloc {w w' : World} {cs : List Value} {t : TypeId} (hb : Below (w.alloc (.cells cs.toArray t)).heap.size (w.alloc (.cells cs.toArray t)) w') : Box w' w.heap.size cs :=
  ⟨box_range hb, by have := box_there hb; simpa using this⟩
theorem Box.of_alloc1 {w w' : World} {o : Obj} {cs : List Value} {t : TypeId} (hb : Below ((w.alloc o).alloc (.cells cs.toArray t)).heap.size ((w.alloc o).alloc (.cells cs.toArray t)) w') : Box w' (w.heap.size + 1) cs := by
  have := Box.of_alloc hb
  rw [World.size_alloc] at this; exact this
theorem Box.of_alloc2 {w w' : World} {o o' : Obj} {cs : List Value} {t : TypeId} (hb : Below (((w.alloc o).alloc o').alloc (.cells cs.toArray t)).heap.size (((w.alloc o).alloc o').alloc (.cells cs.toArray t)) w') : Box w' (w.heap.size + 1 + 1) cs := by
  have := Box.of_alloc hb
  rw [World.size_alloc, World.size_alloc] at this; exact this
theorem Box.lt {w : World} {g : Nat} {cs : List Value} (h : Box w g cs) (h0 : 0 < cs.length) : g < w.heap.size := World.block_lt_of_cell? w _ (h.cell (List.getElem?_eq_getElem h0))
theorem Box.block {w w' : World} {g : Nat} {cs : List Value} (h : Box w g cs) (hg : w'.heap[g]? = w.heap[g]?) : Box w' g cs :=
  ⟨fun j v hj => by rw [World.cell?_of_block (w := w) hg]; exact h.range j v hj, fun j hj => by
    have := h.there j hj
    refine ⟨by rw [World.cell?_of_block (w := w) hg]; exact this.1, ?_⟩
    have h2 := this.2
    simp only [World.frozen?] at h2 ⊢
    rw [hg]; exact h2⟩
theorem Box.below {w w' : World} {g : Nat} {cs : List Value} {B : Nat} (h : Box w g cs) (hb : Below B w w') (hg : g < B) : Box w' g cs := h.block (hb.block g hg)
theorem Box.next {w w' : World} {g : Nat} {cs : List Value} (h : Box w g cs) (h0 : 0 < cs.length) (hb : Below w.heap.size w w') : Box w' g cs := h.below hb (h.lt h0)
theorem Box.drew {w : World} {g : Nat} {cs : List Value} (h : Box w g cs) : Box w.drew g cs := h.block rfl
theorem Box.set {w : World} {g i : Nat} {cs : List Value} (h : Box w g cs) (hi : i < cs.length) (v : Value) : Box (w.setCell ⟨g, i, none⟩ v) g (cs.set i v) := by
  have hci := h.cell (List.getElem?_eq_getElem hi)
  refine ⟨fun j u hj => ?_, fun j hj => ?_⟩
  · rw [Nat.zero_add]
    by_cases e : i = j
    · subst e
      rw [List.getElem?_set_self hi] at hj
      rw [← hj]; exact World.cell?_setCell_same _ _ _ hci
    · rw [List.getElem?_set_ne e] at hj
      rw [World.cell?_setCell_other w _ _ v (fun h => e (congrArg Addr.off h))]
      exact h.cell hj
  · rw [List.length_set] at hj
    refine ⟨?_, ?_⟩
    · rw [Nat.zero_add]
      by_cases e : i = j
      · subst e; rw [World.cell?_setCell_same _ _ _ hci]; rfl
      · rw [World.cell?_setCell_other w _ _ v (fun h => e (congrArg Addr.off h)), h.cell (List.getElem?_eq_getElem hj)]; rfl
    · rw [World.frozen?_setCell]; exact (h.there j hj).2
theorem Box.far {w : World} {g : Nat} {cs : List Value} (h : Box w g cs) {p : Addr} (hp : p.block ≠ g) (v : Value) : Box (w.setCell p v) g cs := h.block (Below.heap_setCell _ _ _ _ (fun e => hp e.symm))

section
variable {P : Program} {e : TypeId} {α : Type}
/-- What a write into the block g alone does to a world. -/
structure Wrote (g : Nat) (w w' : World) : Prop where
  below : ∀ B, B ≤ g → Below B w w'
  size : w'.heap.size = w.heap.size
  keep : ∀ k, k ≠ g → w'.heap[k]? = w.heap[k]?
theorem Box.wrote {w w' : World} {g g' : Nat} {cs : List Value} (h : Box w g cs) (hw : Wrote g' w w') (hne : g ≠ g') : Box w' g cs := h.block (hw.keep g hne)
theorem Mid.wrote {B E g : Nat} {w w' w'' : World} (h : Mid B E w w') (hw : Wrote g w' w'') (hg : g < B ∨ E ≤ g) : Mid B E w w'' := h.other hw.keep hw.size hg
/-- A thing put into a variable of the call's own. -/
theorem wpList_store_whole {ops : Array Oper} {rest : List Oper} {op : Oper} {a : Act} {w : World} {Q : Exit → Act → World → Prop} (L : Lay P e α) (hgd : op.guard = none) (x y : Operand) (ho : op.op = .store e x y)
    (g : Nat) (z : α) (cs : List Value) (hx : a.eval x = .pointer (some ⟨g, 0, none⟩)) (hy : a.eval y = L.val z) (hb : Box w g cs) (hl : cs.length = L.size)
    (h : ∀ w', Box w' g (L.cells z) → Wrote g w w' → wpList P ops Q rest (a.put op.dst undef) w') : wpList P ops Q (op :: rest) a w :=
  wpList_store_keep L hgd x y ho g 0 z hx hy (by rw [← hl]; exact hb.there) (fun w' h1 h2 h3 h4 h5 => h w' ⟨h1, by rw [L.len]; exact h2⟩ ⟨h3, h4, h5⟩)
/-- A one-cell value put into a field of a variable of the call's own. -/
theorem wpList_store_field {ops : Array Oper} {rest : List Oper} {op : Oper} {a : Act} {w : World} {Q : Exit → Act → World → Prop} {t : TypeId} (hgd : op.guard = none) (x y : Operand) (ho : op.op = .store t x y) (hi : (P.info? t).map (·.size) = some 1)
    (g i : Nat) (cs : List Value) (v : Value) (hx : a.eval x = .pointer (some ⟨g, i, none⟩)) (hy : a.eval y = v) (hv : v.cells = #[v]) (h1 : v.oneCell' = true) (hb : Box w g cs) (hlt : i < cs.length)
    (h : ∀ w', Box w' g (cs.set i v) → Wrote g w w' → wpList P ops Q rest (a.put op.dst undef) w') : wpList P ops Q (op :: rest) a w :=
  wpList_plain hgd fun K hK => by
    have hth : w.there g i 1 := fun j hj => by
      have := hb.there i hlt
      obtain rfl : j = 0 := by omega
      rw [Nat.zero_add] at this; exact this
    have hrun : (storeVar t ⟨g, i, none⟩ v).run P w = .ok () (w.setCell ⟨g, i, none⟩ v) := by
      have := run_storeCells_cells (P := P) g i [v] 0 w (fun j hj => by simpa using (hth j (by simpa using hj)).1) (fun j hj => by simpa using (hth j (by simpa using hj)).2) (fun u hu => by simp at hu; subst hu; exact h1)
      cases hq : P.info? t with
      | none => simp [hq] at hi
      | some q =>
        have hs : q.size = 1 := by simpa [hq] using hi
        simp only [Nat.add_zero] at this
        simp [storeVar, sizeOf, typeInfo, hq, hv, hs, this, World.setCells]
    unfold Oper.wp execOp
    simp only [ho, hx, hy, Instr.storeAt, Instr.sureAddr, Sem.run_bind, Sem.run_pure, Result.andThen_ok, hrun]
    exact hK _ _ (h _ (hb.set hlt v) ⟨fun B hB => (Below.refl B w).setCell (p := ⟨g, i, none⟩) hB v, by simp, fun k hk => Below.heap_setCell _ _ _ _ (fun e => hk e)⟩)
end
end Go.Proofs.YtkboojpkkhiceaaDoor

/- Maps of the call's own whose elements are ints, as functions of their keys, whatever the keys' type. -/
namespace Go.Proofs.YtkboojpkkhiceaaDoor
open Go.ChangeShapes Go.WideShapes Go.ChangeAt Go.RowKit Go.Maps
set_option maxRecDepth 100000

structure KeyKind (P : Program) (k : TypeId) (κ : Type) where
  keyed : Keyed P k
  enc : κ → Value
  kl : κ → Lit
  good : κ → Prop
  key : ∀ x, good x → keyOf P k (enc x) = some (kl x)
  inj : ∀ x y, enc x = enc y → x = y

section
variable {P : Program} {k e : TypeId} {κ : Type} {K : KeyKind P k κ}
theorem KeyKind.same (K : KeyKind P k κ) {x y : κ} (hx : K.good x) (hy : K.good y) (h : K.kl x = K.kl y) : x = y :=
  K.inj x y (K.keyed.inj (K.key x hx) (by rw [K.key y hy, h]))
theorem KeyKind.isKey (K : KeyKind P k κ) {x : κ} (hx : K.good x) : WideAt.IsKeyLit (K.kl x) := K.keyed.key (K.key x hx)

/-- The block is a map that reads as the function. -/
def MapI (K : KeyKind P k κ) (e : TypeId) (w : World) (b n : Nat) (f : κ → Option Int) : Prop :=
  ∃ D : DataW Unit, w.ownsMap P k (plainElem P e) b n D ∧ ∀ x, K.good x → D.atKey (K.kl x) (.lit (.int .i64 0)) = .lit (.int .i64 ((f x).getD 0)) ∧ Maps.has D (K.kl x) = (f x).isSome
def upd [DecidableEq κ] (f : κ → Option Int) (x : κ) (z : Int) : κ → Option Int := fun y => if y = x then some z else f y

theorem MapI.made (w : World) : MapI K e (w.alloc (.map #[] 0)) w.heap.size 0 (fun _ => none) :=
  ⟨.map [], World.ownsMap_made _ _ _ _, fun _ _ => ⟨rfl, rfl⟩⟩
theorem MapI.below {w w' : World} {b n B : Nat} {f : κ → Option Int} (h : MapI K e w b n f) (hb : Below B w w') (hB : b < B) : MapI K e w' b n f := by
  obtain ⟨D, ⟨es, clock, h1, h2⟩, hf⟩ := h
  exact ⟨D, ⟨es, clock, by rw [hb.block b hB]; exact h1, h2⟩, hf⟩
theorem MapI.lt {w : World} {b n : Nat} {f : κ → Option Int} (h : MapI K e w b n f) : b < w.heap.size := by
  obtain ⟨D, ⟨es, clock, h1, _⟩, _⟩ := h
  exact (Array.getElem?_eq_some_iff.1 h1).1
theorem MapI.mono {w : World} {b n m : Nat} {f : κ → Option Int} (h : MapI K e w b n f) (hn : n ≤ m) : MapI K e w b m f :=
  let ⟨D, h1, h2⟩ := h; ⟨D, h1.mono hn, h2⟩
theorem MapI.setFar {w : World} {b n : Nat} {f : κ → Option Int} (h : MapI K e w b n f) {p : Addr} (hp : p.block ≠ b) (v : Value) : MapI K e (w.setCell p v) b n f := by
  obtain ⟨D, ⟨es, clock, h1, h2⟩, hf⟩ := h
  exact ⟨D, ⟨es, clock, by rw [Below.heap_setCell _ _ _ _ (fun h => hp h.symm)]; exact h1, h2⟩, hf⟩
theorem MapI.alloc {w : World} {b n : Nat} {f : κ → Option Int} (h : MapI K e w b n f) (o : Obj) : MapI K e (w.alloc o) b n f :=
  h.below ((Below.refl w.heap.size w).alloc (Nat.le_refl _) o) h.lt

theorem MapI.grown {w w' : World} {b n b0 : Nat} {f : κ → Option Int} (h : MapI K e w b n f) (hg : w.grownBy w' (some b0)) (hne : b ≠ b0) : MapI K e w' b n f := by
  have hlt := h.lt
  obtain ⟨D, ⟨es, clock, h1, h2⟩, hf⟩ := h
  exact ⟨D, ⟨es, clock, by rw [hg.block b hlt (by simp; omega)]; exact h1, h2⟩, hf⟩
theorem MapI.rowFar {w w' : World} {b n : Nat} {f : κ → Option Int} (h : MapI K e w b n f) (hg : w.grownBy w' (some b)) {a : Option Addr} {xs : List Value} (hr : Row w a xs) : Row w' a xs := by
  by_cases h0 : xs = []
  · exact .inl h0
  · rcases hr with hr | ⟨g, o, rfl, hc⟩
    · exact absurd hr h0
    · have hlt := Row.lt (.inr ⟨g, o, rfl, hc⟩) h0
      have hne : g ≠ b := by
        rintro rfl
        obtain ⟨D, ⟨es, clock, h1, _⟩, _⟩ := h
        have := hc 0 (List.length_pos_iff.2 h0)
        simp [World.cell?, h1] at this
      exact .inr ⟨g, o, rfl, fun i hi => by
        rw [World.cell?_of_block (w := w) (hg.block g hlt (by simp; omega))]; exact hc i hi⟩
theorem Below.grownMore {w0 w w' : World} {b : Nat} (h : Below w0.heap.size w0 w) (hg : w.grownBy w' (some b)) (hb : w0.heap.size ≤ b) : Below w0.heap.size w0 w' :=
  h.grown hg h.size (fun k hk => by cases hk; exact hb)
theorem wpList_putI [DecidableEq κ] {w : World} {ops : Array Oper} {rest : List Oper} {o : Oper} {a : Act} {Q : Exit → Act → World → Prop} (K : KeyKind P k κ) {t : TypeId} (ht : P.underlying t = some (.map k e)) (he : P.underlying e = some (.int .i64)) (hg : o.guard = none)
    (m x v : Operand) (hop : o.op = Op.mapUpdate t m x v) (b n : Nat) (f : κ → Option Int) (hm : a.eval m = .map (some b)) (hown : MapI K e w b n f) (hn : n < maxLen) (y : κ) (hy : K.good y) (hx : a.eval x = K.enc y) (z : Int) (hv : a.eval v = .int .i64 z)
    (hz : (Lit.int .i64 z).wf = true) (h : ∀ w', MapI K e w' b (n + 1) (upd f y z) → w.grownBy w' (some b) → wpList P ops Q rest (a.put o.dst undef) w') : wpList P ops Q (o :: rest) a w := by
  obtain ⟨D, hD, hf⟩ := hown
  refine wpList_mapUpdate_own w hg m x v t hop k e K.keyed ht (plainElem P e) b n D hm hD hn _ _ (K.kl y) hx hv (K.key y hy) (.lit (.int .i64 z)) [] (plainElem_int he hz) ?_
  intro w' hD' hg'
  refine h w' ⟨_, hD', fun y' hy' => ?_⟩ hg'
  have hmap : IsMap D := by
    obtain ⟨es, clock, _, _, _, rfl⟩ := hD
    exact ⟨_, rfl⟩
  unfold upd
  by_cases e : y' = y
  · subst e
    rw [if_pos rfl]
    exact ⟨atKey_put_same hmap (K.isKey hy) _ _, has_put_same hmap (K.isKey hy) _⟩
  · have hne : K.kl y' ≠ K.kl y := fun h => e (K.same hy' hy h)
    rw [if_neg e, atKey_put_other hne, has_put_other hne]
    exact hf y' hy'
theorem wpList_getOkI {w : World} {ops : Array Oper} {rest : List Oper} {o : Oper} {a : Act} {Q : Exit → Act → World → Prop} (K : KeyKind P k κ) {t : TypeId} (ht : P.underlying t = some (.map k e)) (he : P.underlying e = some (.int .i64)) (hz : ∀ w, (zeroValue e).run P w = .ok (.int .i64 0) w) (hg : o.guard = none)
    (m x : Operand) (hop : o.op = Op.lookup t m x true) (b n : Nat) (f : κ → Option Int) (hm : a.eval m = .map (some b)) (hown : MapI K e w b n f) (y : κ) (hy : K.good y) (hx : a.eval x = K.enc y)
    (h : wpList P ops Q rest (a.put o.dst (.tuple #[.int .i64 ((f y).getD 0), .bool (f y).isSome])) w) : wpList P ops Q (o :: rest) a w := by
  obtain ⟨D, hD, hf⟩ := hown
  obtain ⟨h1, h2⟩ := hf y hy
  refine wpList_lookup_own_ok_int w hg m x t hop k e .i64 K.keyed ht he (hz w) b n D hm hD _ (K.kl y) hx (K.key y hy) ?_
  intro c hc _
  rw [h1] at hc
  simp only [DataW.lit.injEq, Lit.int.injEq, true_and] at hc
  rw [h2, ← hc]
  exact h
theorem wpList_getI {w : World} {ops : Array Oper} {rest : List Oper} {o : Oper} {a : Act} {Q : Exit → Act → World → Prop} (K : KeyKind P k κ) {t : TypeId} (ht : P.underlying t = some (.map k e)) (he : P.underlying e = some (.int .i64)) (hz : ∀ w, (zeroValue e).run P w = .ok (.int .i64 0) w) (hg : o.guard = none)
    (m x : Operand) (hop : o.op = Op.lookup t m x false) (b n : Nat) (f : κ → Option Int) (hm : a.eval m = .map (some b)) (hown : MapI K e w b n f) (y : κ) (hy : K.good y) (hx : a.eval x = K.enc y)
    (h : wpList P ops Q rest (a.put o.dst (.int .i64 ((f y).getD 0))) w) : wpList P ops Q (o :: rest) a w := by
  obtain ⟨D, hD, hf⟩ := hown
  obtain ⟨h1, _⟩ := hf y hy
  refine wpList_lookup_own_int w hg m x t hop k e .i64 K.keyed ht he (hz w) b n D hm hD _ (K.kl y) hx (K.key y hy) ?_
  intro c hc _
  rw [h1] at hc
  simp only [DataW.lit.injEq, Lit.int.injEq, true_and] at hc
  rw [← hc]
  exact h
end

theorem keyOf_struct1 {P : Program} {k e : TypeId} {q : IntKind} {f : Field} (hu : P.underlying k = some (.struct #[f])) (hf : f.type = e) (ho : f.offset = 0) (hn : (f.name != "_") = true) (h1 : P.cellsOf k = 1) (h2 : P.cellsOf e = 1) (hkt : P.keyType k = true) (he : P.underlying e = some (.int q)) (hsz : ∃ m, P.types.size = m + 1) {a : Int} (wa : (Lit.int q a).wf = true) :
    keyOf P k (.agg #[.int q a]) = some (.string (keyBytes [.int q a])) := by
  obtain ⟨m, hm⟩ := hsz
  unfold keyOf
  simp only [hu]
  rw [if_pos (by simp [hkt, Value.formed, hu, h1]), hm]
  unfold Program.keyLits
  simp only [hu, Value.cells]
  rw [if_pos (by simp [h1, hn])]
  simp [hf, ho, h2, Program.keyLits, he, wa]
/-- Ints as keys. -/
def intKey {P : Program} {k : TypeId} (hu : P.underlying k = some (.int .i64)) : KeyKind P k Int where
  keyed := int_keyed hu
  enc n := .int .i64 n
  kl n := .int .i64 n
  good n := (Lit.int .i64 n).wf = true
  key _ h := keyOf_int_mk hu h
  inj _ _ h := by simpa using h
end Go.Proofs.YtkboojpkkhiceaaDoor

/- The place of the first that is so; what is kept of a row. Plain mathematics. -/
namespace Go.Proofs.YtkboojpkkhiceaaDoor
section
variable {α : Type} {p q : α → Bool} {xs us : List α} {i j k : Nat}
/-- The place of the first that is so; -1: none. -/
def idxL (p : α → Bool) (xs : List α) : Int := match xs.findIdx? p with | some k => (k : Int) | none => -1
theorem idxL_some (hk : k < xs.length) (hno : ∀ j (h : j < xs.length), j < k → p xs[j] = false) (hp : p xs[k] = true) : idxL p xs = k := by
  have : xs.findIdx? p = some k := by
    rw [List.findIdx?_eq_some_iff_getElem]
    exact ⟨hk, hp, fun j hj => by rw [hno j (by omega) hj]; simp⟩
  unfold idxL; rw [this]
theorem idxL_none (hno : ∀ j (h : j < xs.length), p xs[j] = false) : idxL p xs = -1 := by
  have : xs.findIdx? p = none := by
    rw [List.findIdx?_eq_none_iff]
    intro x hx
    obtain ⟨j, hj, rfl⟩ := List.mem_iff_getElem.1 hx
    exact hno j hj
  unfold idxL; rw [this]
/-- The two ways of it. -/
theorem idxL_ways (p : α → Bool) (xs : List α) : (idxL p xs = -1 ∧ ∀ x ∈ xs, p x = false) ∨ ∃ k, ∃ hk : k < xs.length, idxL p xs = k ∧ p xs[k] = true ∧ ∀ j (h : j < xs.length), j < k → p xs[j] = false := by
  unfold idxL
  cases h : xs.findIdx? p with
  | none => exact .inl ⟨rfl, List.findIdx?_eq_none_iff.1 h⟩
  | some k =>
    obtain ⟨hk, h1, h2⟩ := List.findIdx?_eq_some_iff_getElem.1 h
    exact .inr ⟨k, hk, rfl, h1, fun j hj hlt => by simpa using h2 j hlt⟩
/-- The place found, told of the first that is so. -/
theorem idxL_find (p : α → Bool) (xs : List α) : (idxL p xs = -1 ∧ xs.find? p = none) ∨ ∃ k, ∃ hk : k < xs.length, idxL p xs = k ∧ xs.find? p = some xs[k] := by
  rcases idxL_ways p xs with ⟨h1, h2⟩ | ⟨k, hk, h1, h2, h3⟩
  · exact .inl ⟨h1, List.find?_eq_none.2 fun x hx => by rw [h2 x hx]; simp⟩
  · exact .inr ⟨k, hk, h1, List.find?_eq_some_iff_getElem.2 ⟨h2, k, hk, rfl, fun j hj => by rw [h3 j (by omega) hj]; rfl⟩⟩
/-- Whether what was looked for stands there. -/
def hitAt (cmp : α → Int) : Option α → Bool
  | some x => cmp x == 0
  | none => false
/-- DeleteFunc's rounds. -/
theorem df_keep (hj : j < xs.length) (hl : us.length = xs.length) (hij : i < j) (h1 : us.take i = (xs.take j).filter q) (h2 : us.drop j = xs.drop j) (hq : q xs[j] = true) :
    (us.set i xs[j]).take (i + 1) = (xs.take (j + 1)).filter q ∧ (us.set i xs[j]).drop (j + 1) = xs.drop (j + 1) := by
  constructor
  · rw [List.take_succ_eq_append_getElem (by rw [List.length_set]; omega), List.getElem_set_self, List.take_set_of_le (Nat.le_refl _), h1, List.take_succ_eq_append_getElem hj, List.filter_append, List.filter_cons, if_pos hq]; rfl
  · rw [List.drop_set_of_lt (by omega)]
    have := congrArg (List.drop 1) h2
    simpa using this
theorem df_drop (hj : j < xs.length) (h1 : us.take i = (xs.take j).filter q) (h2 : us.drop j = xs.drop j) (hq : q xs[j] = false) :
    us.take i = (xs.take (j + 1)).filter q ∧ us.drop (j + 1) = xs.drop (j + 1) := by
  constructor
  · rw [h1, List.take_succ_eq_append_getElem hj, List.filter_append, List.filter_cons, if_neg (by rw [hq]; simp)]; simp
  · have := congrArg (List.drop 1) h2
    simpa using this
theorem df_at (hj : j < xs.length) (hl : us.length = xs.length) (h2 : us.drop j = xs.drop j) : us[j]'(by omega) = xs[j] := by
  have := congrArg (fun l => l[0]?) h2
  simp only [List.getElem?_drop, Nat.add_zero, List.getElem?_eq_getElem hj, List.getElem?_eq_getElem (show j < us.length by omega), Option.some.injEq] at this
  exact this
theorem df_start (hk : k < xs.length) (hp : q xs[k] = false) (hno : ∀ j (h : j < xs.length), j < k → q xs[j] = true) : xs.take k = (xs.take (k + 1)).filter q := by
  rw [List.take_succ_eq_append_getElem hk, List.filter_append, List.filter_cons, if_neg (by rw [hp]; simp), List.filter_nil, List.append_nil]
  symm
  rw [List.filter_eq_self]
  intro x hx
  obtain ⟨j, hj, rfl⟩ := List.mem_iff_getElem.1 hx
  rw [List.length_take] at hj
  rw [List.getElem_take]
  exact hno j (by omega) (by omega)
end
end Go.Proofs.YtkboojpkkhiceaaDoor

/- slices.BinarySearchFunc with a number as target: the place before which all are less. -/
namespace Go.Proofs.YtkboojpkkhiceaaDoor
open Go.ChangeShapes Go.WideShapes Go.ChangeAt Go.RowKit
set_option maxRecDepth 100000

set_option maxHeartbeats 4000000 in
set_option maxRecDepth 100000 in
theorem binSearchIFce (xs : List Force) (y : Int) (a : Option Addr) (n c : Nat) (fid : FuncId) (cap : Array Value) (cmp : Force → Int) (k0 : Nat) (w : World) (hn : xs.length = n) (hl : n ≤ 1000000) (hr : LRow layFce w a xs)
    (hcf : ∀ (args : Array Value) (w : World), (callFunc fid args).run Tryd.prog w = .ok (.enter fid args) w)
    (hf : ∀ x ∈ xs, ∀ w', Below w.heap.size w w' → Calls Tryd.prog fid (#[x.agg, .int .i64 y] ++ cap) w' fun e w'' => e = .returned (.int .i64 (cmp x)) ∧ Below w'.heap.size w' w'')
    (hk0 : k0 ≤ n) (hlo : ∀ j (h : j < xs.length), j < k0 → cmp xs[j] < 0) (hhi : ∀ j (h : j < xs.length), k0 ≤ j → 0 ≤ cmp xs[j]) :
    Calls Tryd.prog 22 #[.slice a n c, .int .i64 y, .func (.func fid) #[] cap] w fun e w' => e = .returned (.tuple #[.int .i64 k0, .bool (hitAt cmp xs[k0]?)]) ∧ Below w.heap.size w w' := by
  subst hn
  have HF := Lib.hid hf
  have HLO := Lib.hid hlo
  have HHI := Lib.hid hhi
  have HE : Hid (∀ x, xs[k0]? = some x → (hitAt cmp xs[k0]?) = (cmp x == 0)) := fun x hx => by rw [hx]; rfl
  have HN : Hid (xs[k0]? = none → (hitAt cmp xs[k0]?) = false) := fun hx => by rw [hx]; rfl
  generalize hitAt cmp xs[k0]? = res at HE HN ⊢
  clear hf hlo hhi
  go_enter Tryd.func22, Tryd.ntmps22
  go_wp2
  go_loopw [9, 10] (fun si sj wr => ∃ i j : Nat, si = .int .i64 i ∧ sj = .int .i64 j ∧ i ≤ k0 ∧ k0 ≤ j ∧ j ≤ xs.length ∧ Hid (Below w.heap.size w wr)) (fun si sj _ => (intOf sj).toNat - (intOf si).toNat)
  case atStart => exact ⟨0, xs.length, rfl, rfl, by omega, hk0, by omega, Below.refl _ _⟩
  case round =>
    obtain ⟨i, j, rfl, rfl, hik, hkj, hjn, hb⟩ := hrel
    have hbw : Below w.heap.size w wr := hb.out
    by_cases hlt : i < j
    · obtain ⟨m, hm⟩ : ∃ m : Nat, ((i : Int) + (j : Int)) / 2 = (m : Int) := ⟨(i + j) / 2, by omega⟩
      have him : i ≤ m := by omega
      have hmj : m < j := by omega
      have hmx : m < xs.length := by omega
      have HM := Lib.hid hm
      clear hm
      obtain ⟨b, o, rfl, hrg⟩ := atFce hr hmx
      have hx0 := hrg wr hbw
      have HX := Lib.hid hx0
      have HF1 := Lib.hid (fun w' hb => HF.out xs[m] (List.getElem_mem hmx) w' hb)
      have HLO1 := Lib.hid (fun h : m < k0 => HLO.out m hmx h)
      have HHI1 := Lib.hid (fun h : k0 ≤ m => HHI.out m hmx h)
      generalize hxm : xs[m] = x at HX HF1 HLO1 HHI1
      clear hrg hx0 hxm
      have hx := HX.out
      by_cases hc : cmp x < 0
      · have hmk : m < k0 := by
          rcases Nat.lt_or_ge m k0 with h | h
          · exact h
          · have := HHI1.out h; omega
        have hcd : decide (cmp x < 0) = true := decide_eq_true hc
        clear hc
        have hm := HM.out
        go_wp2_with (refine (HF1.out _ hbw).mono ?_; rintro e w4 ⟨rfl, hb4⟩)
        go_roundw
        case rel => exact ⟨m + 1, j, by go_num, rfl, by omega, hkj, hjn, hbw.trans (hb4.mono hbw.size)⟩
        case measure => simp [intOf]; omega
      · have hmk : k0 ≤ m := by
          rcases Nat.lt_or_ge m k0 with h | h
          · have := HLO1.out h; omega
          · exact h
        have hcd : decide (cmp x < 0) = false := decide_eq_false hc
        clear hc
        have hm := HM.out
        go_wp2_with (refine (HF1.out _ hbw).mono ?_; rintro e w4 ⟨rfl, hb4⟩)
        go_roundw
        case rel => exact ⟨i, m, rfl, rfl, hik, hmk, by omega, hbw.trans (hb4.mono hbw.size)⟩
        case measure => simp [intOf]; omega
    · obtain rfl : i = k0 := by omega
      by_cases hkn : i < xs.length
      · obtain ⟨b, o, rfl, hrg⟩ := atFce hr hkn
        have hx0 := hrg wr hbw
        have HX := Lib.hid hx0
        have HF1 := Lib.hid (fun w' hb => HF.out xs[i] (List.getElem_mem hkn) w' hb)
        have HE1 := Lib.hid (HE.out xs[i] (List.getElem?_eq_getElem hkn))
        have HRG := Lib.hid hrg
        generalize hxm : xs[i] = x at HX HF1 HE1 HRG
        clear hrg hx0 hxm HE HN
        have hg8 : decide ((i : Int) < (xs.length : Int)) = true := decide_eq_true (by omega)
        have hx := HX.out
        go_wp2_with (refine (HF1.out _ hbw).mono ?_; rintro e w4 ⟨rfl, hb4⟩)
        go_returns
        exact ⟨by rw [HE1.out]; rfl, hbw.trans (hb4.mono hbw.size)⟩
      · have HN1 := Lib.hid (HN.out (List.getElem?_eq_none (by omega)))
        have hg8 : decide ((i : Int) < (xs.length : Int)) = false := decide_eq_false (by omega)
        go_wp2
        go_returns
        exact ⟨by rw [HN1.out]; rfl, hbw⟩
end Go.Proofs.YtkboojpkkhiceaaDoor

/- slices.Delete of one thing, in a row of the call's own. -/
namespace Go.Proofs.YtkboojpkkhiceaaDoor
open Go.ChangeShapes Go.WideShapes Go.ChangeAt Go.RowKit
set_option maxRecDepth 100000

theorem rangeAt_app {w : World} {b o : Nat} {xs ys : List Value} (h : w.rangeAt b o xs) (h2 : w.rangeAt b (o + xs.length) ys) : w.rangeAt b o (xs ++ ys) := fun j v hj => by
  by_cases h1 : j < xs.length
  · rw [List.getElem?_append_left h1] at hj; exact h j v hj
  · rw [List.getElem?_append_right (by omega)] at hj
    have := h2 _ v hj
    rw [show o + xs.length + (j - xs.length) = o + j by omega] at this
    exact this
theorem rangeAt_take {w : World} {b o : Nat} {xs : List Value} (k : Nat) (h : w.rangeAt b o xs) : w.rangeAt b o (xs.take k) := fun j v hj => by
  have hk : j < k := by have := (List.getElem?_eq_some_iff.1 hj).1; rw [List.length_take] at this; omega
  rw [List.getElem?_take, if_pos hk] at hj; exact h j v hj
theorem rangeAt_drop {w : World} {b o : Nat} {xs : List Value} (k : Nat) (h : w.rangeAt b o xs) : w.rangeAt b (o + k) (xs.drop k) := fun j v hj => by
  rw [List.getElem?_drop] at hj
  have := h _ v hj
  rw [← Nat.add_assoc] at this
  exact this
theorem erase_parts {α : Type} (xs : List α) (i : Nat) : xs.eraseIdx i = xs.take i ++ xs.drop (i + 1) := List.eraseIdx_eq_take_drop_succ xs i

def RetDelAFce (g : Nat) (w : World) (a : Option Addr) (c : Nat) (xs : List Force) (e : Ending) (w' : World) : Prop :=
  e = .returned (.slice a xs.length c) ∧ LRow layFce w' a xs ∧ Only g w w'
set_option maxHeartbeats 2000000 in
theorem deleteAtFce (xs : List Force) (B g n c i : Nat) (w : World) (hn : xs.length = n) (hnc : n ≤ c) (hl : c ≤ maxLen) (hm : Mine layFce w B g 0 xs) (hi : i < n) :
    Calls Tryd.prog 26 #[.slice (some ⟨g, 0, none⟩) n c, .int .i64 i, .int .i64 ((i : Int) + 1)] w (RetDelAFce g w (some ⟨g, 0, none⟩) c (xs.eraseIdx i)) := by
  subst hn
  have hl2 := lt_maxLen hl
  have hlm : xs.length ≤ maxLen := Nat.le_trans hnc hl
  have hlen2 : (xs.eraseIdx i).length = xs.length - 1 := List.length_eraseIdx_of_lt hi
  obtain ⟨j, hj⟩ : ∃ j : Nat, j = i + 1 := ⟨_, rfl⟩
  rw [show ((i : Int) + 1) = ((j : Nat) : Int) by omega]
  obtain ⟨news, hnews⟩ : ∃ news, news = (xs.drop j).flatMap layFce.cells := ⟨_, rfl⟩
  have hlen : news.length = (xs.length - j) * 4 := by rw [hnews, layFce.length, List.length_drop]; rfl
  have hall : (xs.flatMap layFce.cells).drop (j * 4) = news := by rw [hnews]; exact flatMap_drop layFce.len xs j
  have hfirst : (xs.flatMap layFce.cells).take (i * 4) = (xs.take i).flatMap layFce.cells := flatMap_take layFce.len xs i
  have hr1 : w.rangeAt g (j * 4) news := by
    have := rangeAt_drop (j * 4) hm.2.1
    rw [hall, Nat.zero_add] at this; exact this
  have hr0 : w.rangeAt g 0 ((xs.take i).flatMap layFce.cells) := by rw [← hfirst]; exact rangeAt_take _ hm.2.1
  have hth : w.there g 0 (xs.length * 4) := hm.2.2
  obtain ⟨A, hA, hsrc⟩ : ∃ A : Addr, (if c = j then some (⟨g, 0, none⟩ : Addr) else some ⟨g, j * 4, none⟩) = some A ∧ Hid (∀ t u, news[t]? = some u → w.drew.cell? (A.add t) = some u) := by
    by_cases h : c = j
    · refine ⟨⟨g, 0, none⟩, by simp [h], fun t u hu => ?_⟩
      have h0 : news.length = 0 := by rw [hlen]; omega
      rw [List.length_eq_zero_iff.1 h0] at hu
      simp at hu
    · refine ⟨⟨g, j * 4, none⟩, by simp [h], fun t u hu => ?_⟩
      have := hr1 t u hu
      by_cases ht : t = 0
      · subst ht; simpa [Addr.add] using this
      · simpa [Addr.add, ht] using this
  have s1 : Hid (news.length = (xs.length - j) * 4) := hlen
  have s2 : Hid (∀ u ∈ news, u.oneCell' = true) := by rw [hnews]; exact layFce.ones _
  have s3 : Hid (∀ t, t < news.length → (w.drew.cell? ⟨g, 0 + i * 4 + t, none⟩).isSome = true ∧ w.drew.frozen? ⟨g, 0 + i * 4 + t, none⟩ = false) := by
    intro t ht
    rw [hlen] at ht
    have := hth (i * 4 + t) (by omega)
    rw [← Nat.add_assoc] at this
    exact this
  obtain ⟨W1, hW1⟩ : ∃ W1, W1 = w.drew.setCells g (0 + i * 4) news := ⟨_, rfl⟩
  have hth0 : w.drew.there g 0 (xs.length * 4) := hth
  have hW : Hid (W1 = w.drew.setCells g (0 + i * 4) news) := hW1
  have hthn : w.drew.there g (0 + i * 4) news.length := fun t ht => s3.out t ht
  have HM1 : Hid (W1.rangeAt g 0 ((xs.eraseIdx i).flatMap layFce.cells)) := by
    show World.rangeAt _ _ _ _
    rw [hW1, erase_parts, List.flatMap_append, ← hj, ← hnews]
    have hl0 : ((xs.take i).flatMap layFce.cells).length = i * 4 := by rw [layFce.length, List.length_take, Nat.min_eq_left (by omega)]; rfl
    refine rangeAt_app (World.rangeAt_setCells_apart (w := w.drew) hr0 _ _ _ (.inr (.inl (by rw [hl0]; exact Nat.le_refl _)))) ?_
    rw [hl0]
    exact World.rangeAt_setCells_same w.drew g (0 + i * 4) news hthn
  have hlast : i + (xs.length - j) = xs.length - 1 := by omega
  have hone : xs.length - (i + (xs.length - j)) = 1 := by omega
  have HTH : Hid (W1.there g ((i + (xs.length - j)) * 4) ((xs.length - (i + (xs.length - j))) * 4)) := by
    show World.there _ _ _ _
    rw [hW1, hone, hlast]
    refine World.there_setCells (fun t ht => ?_) _ _ _
    have := hth0 ((xs.length - 1) * 4 + t) (by omega)
    rw [Nat.zero_add] at this
    exact this
  have HO1 : Hid (Only g w W1) := by
    show Only _ _ _
    rw [hW1]
    exact (Only.refl g w).put (fun B hB => Below.setCells hB _ _ ((Below.refl B w).drew)) (fun k hk => setCells_keep g _ _ w.drew k hk)
  have HLN := Lib.hid hlen2
  clear hlast hone hW1 hth0 hthn hth hr0 hr1 hfirst hall hlen hlen2 hnews hm
  generalize xs.eraseIdx i = res at HM1 HLN ⊢
  obtain ⟨i0, hi0, hz1⟩ : ∃ i0, Tryd.prog.info? 49 = some i0 ∧ i0.size = 4 := by
    obtain ⟨i0, z, h1, h2, h3, _⟩ := layFce.parts
    exact ⟨i0, h1, h3⟩
  go_enter Tryd.func26, Tryd.ntmps26
  have hic : i ≤ c := by omega
  have hjc : j ≤ c := by omega
  have hjn : j ≤ xs.length := by omega
  have hij : i < j := by omega
  have hij2 : ((i : Int) == (j : Int)) = false := by rw [beq_eq_false_iff_ne]; omega
  have HJ := Lib.hid hj
  clear hj
  go_wp2_with fail
  go_region_law (refine step_append_room rfl (.tmp 22) (.tmp 25) 22 rfl 49 i0 4 Tryd.underlying22 hi0 hz1 g 0 i c (by simp [Act.eval, Act.put]) A (xs.length - j) (c - j) news (by simp [Act.eval, Act.put]) s1.out hsrc.out s2.out (by omega) s3.out ?_; rw [← hW.out])
  go_wp2_with (refine wpList_clear_lay layFce Tryd.underlying22 rfl (.tmp 31) rfl g ((i + (xs.length - j)) * 4) (xs.length - (i + (xs.length - j))) (c - (i + (xs.length - j))) rfl HTH.out ?_; intro zs _; obtain ⟨W5, hW5⟩ : ∃ W5, W5 = W1.setCells g ((i + (xs.length - j)) * 4) zs := ⟨_, rfl⟩; have HW5 := Lib.hid hW5; rw [← hW5]; clear hW5)
  go_returns
  have hres : res.length = i + (xs.length - j) := by have := HLN.out; have := HJ.out; omega
  refine ⟨by rw [hres]; rfl, ?_, ?_⟩
  · have hr : W5.rangeAt g 0 (res.flatMap layFce.cells) := by
      rw [HW5.out]
      refine World.rangeAt_setCells_apart HM1.out _ _ _ (.inr (.inl ?_))
      rw [layFce.length, hres, Nat.zero_add]; exact Nat.le_refl _
    exact .inr ⟨g, 0, rfl, fun k hk => hr k _ (List.getElem?_eq_getElem hk)⟩
  · rw [HW5.out]
    exact HO1.out.put (fun B hB => Below.setCells hB _ _ (Below.refl B W1)) (fun k hk => setCells_keep g _ _ W1 k hk)
end Go.Proofs.YtkboojpkkhiceaaDoor

/- slices.Insert of one thing, into a row of the call's own, or at the end of a full one. -/
namespace Go.Proofs.YtkboojpkkhiceaaDoor
open Go.ChangeShapes Go.WideShapes Go.ChangeAt Go.RowKit
set_option maxRecDepth 100000

def RetInsFce (B : Nat) (w : World) (xs : List Force) (e : Ending) (w' : World) : Prop :=
  ∃ a' c', e = .returned (.slice a' xs.length c') ∧ w'.ownsRow B 49 (layFce).size (.slice a' xs.length c') xs.length (xs.flatMap (layFce).cells) ∧ Below B w w'

set_option maxHeartbeats 4000000 in
/-- At the end. -/
theorem insertEndFce (xs : List Force) (x : Force) (n c : Nat) (a : Option Addr) (vb : Nat) (te : TypeId) (B : Nat) (w : World) (hn : xs.length = n) (hcan : Can w B 49 (layFce).size a n c (xs.flatMap (layFce).cells))
    (hv : w.heap[vb]? = some (.cells ((layFce).cells x).toArray te (0, 0))) (hby : (n + 1) * (layFce).bytes ≤ 140737488355328) (hB : B ≤ w.heap.size) :
    Calls Tryd.prog 25 #[.slice a n c, .int .i64 n, .slice (some ⟨vb, 0, none⟩) 1 1] w (RetInsFce B w (xs ++ [x])) := by
  have hle := hcan.le
  have hmx := hcan.2.1
  have hsm := lt_maxLen hmx
  have hbp := (layFce).bpos
  have hcc : c ≤ 9223372036854775807 := by
    rcases hcan.2.2 with ⟨h, _⟩ | h
    · omega
    · obtain ⟨_, _, hv, _, h2, _⟩ := own_slice h
      simp only [Value.slice.injEq] at hv
      have := lt_maxLen h2
      omega
  have hrv : Row w (some ⟨vb, 0, none⟩) ((layFce).cells x) := by have := Row.of_block hv; simpa using this
  have HC := Lib.hid hcan
  have HV := Lib.hid hrv
  have h1v := (layFce).one x
  have H1 := Lib.hid h1v
  have HL := Lib.hid ((layFce).len x)
  clear hcan hrv hv h1v
  go_enter Tryd.func25, Tryd.ntmps25
  go_wp2_with (at_builtin; refine wpList_can ((layFce).elem Tryd.underlying22) rfl (.tmp 23) (.tmp 24) rfl B a n c _ rfl HC.out (some ⟨vb, 0, none⟩) 1 1 ((layFce).cells x) rfl (by rw [HL.out, Nat.one_mul]) HV.out H1.out hby hB ?_; intro a' c' w' hcan' _ hb' hown')
  all_goals
    go_returns
    subst hn
    refine ⟨a', c', by rw [List.length_append]; rfl, ?_, hb'⟩
    have := hown'.1 (by omega)
    rw [List.length_append, List.flatMap_append, List.flatMap_cons, List.flatMap_nil, List.append_nil]
    exact this

theorem overlapsFce_no (w : World) (vb g o m vc lb cb : Nat) (tA tB : TypeId) (cA cB : Array Value) (hne : vb ≠ g) (hA : w.heap[vb]? = some (.cells cA tA (0, 0))) (hB : w.heap[g]? = some (.cells cB tB (0, 0))) (hk : cB.size ≠ 0) :
    (callFunc 38 #[.slice (some ⟨vb, 0, none⟩) m vc, .slice (some ⟨g, o, none⟩) lb cb]).run Tryd.prog w = .ok (.value (.bool false)) w := by
  obtain ⟨i, z, h2, _, h3, _⟩ := (layFce).parts
  have hsz : ∀ w, (sizeOf 49).run Tryd.prog w = .ok (layFce).size w := fun w => by simp [sizeOf, typeInfo, h2, h3]
  rw [run_callFunc_extern Tryd.func38 (by kernel_rfl) (by kernel_rfl) (by kernel_rfl) (e := Extern.SlicesOverlaps.overlaps #[22, 22] #[4]) (by kernel_rfl),
    Lib.run_overlaps_apart w 22 4 49 Tryd.underlying22 (layFce).size hsz ⟨vb, 0, none⟩ ⟨g, o, none⟩ m vc lb cb hne tA tB cA.size cB.size
      (by simp [World.shape?, hA]) (by simp [World.shape?, hB]) hk (by simp [World.frozen?, hA]) (by simp [World.frozen?, hA])]
  rfl
end Go.Proofs.YtkboojpkkhiceaaDoor

/- slices.Insert of one thing into the middle of a row of the call's own. -/
namespace Go.Proofs.YtkboojpkkhiceaaDoor
open Go.ChangeShapes Go.WideShapes Go.ChangeAt Go.RowKit
set_option maxRecDepth 100000

theorem midFce_cells (xs : List Force) (x : Force) (i : Nat) : (xs.take i ++ x :: xs.drop i).flatMap (layFce).cells = (xs.take i).flatMap (layFce).cells ++ ((layFce).cells x ++ (xs.drop i).flatMap (layFce).cells) := by
  rw [List.flatMap_append, List.flatMap_cons]

set_option maxHeartbeats 4000000 in
/-- No room: a new row. -/
theorem insertGrowFce (xs : List Force) (x : Force) (i n c g : Nat) (vb : Nat) (te : TypeId) (B : Nat) (w : World) (hn : xs.length = n) (hi : i < n) (hc : c < n + 1) (hown : w.ownsRow B 49 (layFce).size (.slice (some ⟨g, 0, none⟩) n c) n (xs.flatMap (layFce).cells))
    (hv : w.heap[vb]? = some (.cells ((layFce).cells x).toArray te (0, 0))) (hby : (n + 1) * (layFce).bytes ≤ 140737488355328) (hB : B ≤ w.heap.size) :
    Calls Tryd.prog 25 #[.slice (some ⟨g, 0, none⟩) n c, .int .i64 i, .slice (some ⟨vb, 0, none⟩) 1 1] w (RetInsFce B w (xs.take i ++ x :: xs.drop i)) := by
  obtain ⟨hBg, hnc, hcm, hAl, D, hg, hCl⟩ := own_whole hown
  have hbp := (layFce).bpos
  have hsp := (layFce).pos
  have hn1 : n + 1 ≤ 140737488355328 := Nat.le_trans (Nat.le_mul_of_pos_right _ hbp) hby
  have hAB : xs.flatMap (layFce).cells = (xs.take i).flatMap (layFce).cells ++ (xs.drop i).flatMap (layFce).cells := by rw [← List.flatMap_append, List.take_append_drop]
  have hal : ((xs.take i).flatMap (layFce).cells).length = i * (layFce).size := by rw [(layFce).length, List.length_take]; congr 1; omega
  have hbl : ((xs.drop i).flatMap (layFce).cells).length = (n - i) * (layFce).size := by rw [(layFce).length, List.length_drop, hn]
  have hxl := (layFce).len x
  have h1x := (layFce).one x
  have h1b := (layFce).ones (xs.drop i)
  have hrl : (xs.take i ++ x :: xs.drop i).length = n + 1 := by simp; omega
  have hrc := midFce_cells xs x i
  generalize hR : (xs.take i ++ x :: xs.drop i) = res at hrl hrc ⊢
  generalize hxa : (xs.take i).flatMap (layFce).cells = A at hAB hal hrc
  generalize hxb : (xs.drop i).flatMap (layFce).cells = Bs at hAB hbl h1b hrc
  generalize hxc : (layFce).cells x = X at hv hxl h1x hrc
  rw [hAB] at hg
  have hcellg : ∀ j u, (A ++ Bs)[j]? = some u → w.cell? ⟨g, 0 + j, none⟩ = some u := fun j u hj => by
    have hlt := (List.getElem?_eq_some_iff.1 hj).1
    simp only [World.cell?, hg, Nat.zero_add, Option.isSome_none, Bool.false_eq_true, if_false]
    rw [List.getElem?_toArray, List.getElem?_append_left hlt, hj]
  have hgl : g < w.heap.size := (Array.getElem?_eq_some_iff.1 hg).1
  have hvl : vb < w.heap.size := (Array.getElem?_eq_some_iff.1 hv).1
  have hvc : ∀ j u, X[j]? = some u → w.cell? ⟨vb, 0 + j, none⟩ = some u := fun j u hj => by
    simp only [World.cell?, hv, Nat.zero_add, Option.isSome_none, Bool.false_eq_true, if_false]
    rw [List.getElem?_toArray, hj]
  obtain ⟨w1, g1, c1, Z, hrun, hg1, hc1, hcm1, hh1, hl1, hb1, hs1⟩ := run_append_zeros layFce Tryd.underlying22 Tryd.underlying3 22 w g 0 i c (n + 1 - i) A hal (fun j u hj => hcellg j u (by rw [List.getElem?_append_left (List.getElem?_eq_some_iff.1 hj).1]; exact hj)) (by omega) (by omega) (by rw [show i + (n + 1 - i) = n + 1 by omega]; exact hby)
  have hkk : (n : Int) + 1 - (i : Int) = ((n + 1 - i : Nat) : Int) := by omega
  rw [← hkk, show i + (n + 1 - i) = n + 1 by omega] at hrun
  rw [show i + (n + 1 - i) = n + 1 by omega] at hc1
  have hZl : Z.length + i * (layFce).size = c1 * (layFce).size := by rw [List.length_append, hal] at hl1; omega
  have hZ1 : (n + 1) * (layFce).size ≤ c1 * (layFce).size := Nat.mul_le_mul_right _ hc1
  have hni : (n + 1) * (layFce).size = i * (layFce).size + (layFce).size + (n - i) * (layFce).size := by rw [← Nat.succ_mul, ← Nat.add_mul]; congr 1; omega
  have hp1 : A ++ Z = A ++ (Z.take (layFce).size ++ Z.drop (layFce).size) := by rw [List.take_append_drop]
  rw [hp1] at hh1
  have hp2 : Z.drop (layFce).size = (Z.drop (layFce).size).take ((n - i) * (layFce).size) ++ (Z.drop (layFce).size).drop ((n - i) * (layFce).size) := by rw [List.take_append_drop]
  have hZa : (Z.take (layFce).size).length = X.length := by rw [List.length_take, hxl]; omega
  have hZb : ((Z.drop (layFce).size).take ((n - i) * (layFce).size)).length = Bs.length := by rw [List.length_take, List.length_drop, hbl]; omega
  have hZc : ((Z.drop (layFce).size).drop ((n - i) * (layFce).size)).length + (n + 1) * (layFce).size = c1 * (layFce).size := by rw [List.length_drop, List.length_drop]; omega
  rw [hp2] at hh1
  generalize Z.take (layFce).size = M1 at hh1 hZa
  generalize (Z.drop (layFce).size).take ((n - i) * (layFce).size) = M2 at hh1 hZb
  generalize (Z.drop (layFce).size).drop ((n - i) * (layFce).size) = R2 at hh1 hZc
  have hAX : (A ++ X).length = (i + 1) * (layFce).size := by rw [List.length_append, hal, hxl, Nat.succ_mul]
  have hcm1' := lt_maxLen hcm1
  have hcm' := lt_maxLen hcm
  have RUN := Lib.hid hrun
  have HH1 := Lib.hid hh1
  have HVC := Lib.hid (fun j u hj => ((hb1.cell (p := ⟨vb, 0 + j, none⟩) hvl).trans (hvc j u hj)))
  have HCG := Lib.hid (fun j u hj => ((hb1.cell (p := ⟨g, 0 + j, none⟩) hgl).trans (hcellg j u hj)))
  have hgg : g ≠ g1 := by omega
  have HMA := Lib.hid hZa
  have HMB := Lib.hid hZb
  have H1X := Lib.hid h1x
  have H1B := Lib.hid h1b
  have HAL := Lib.hid hal
  have HXL := Lib.hid hxl
  have HBL := Lib.hid hbl
  have HAX := Lib.hid hAX
  have HZC := Lib.hid hZc
  have HRC := Lib.hid hrc
  have HRL := Lib.hid hrl
  clear hp1 hp2 hl1 hcellg hvc hrun hkk hh1 hg hv hown hAB hxa hxb hxc hR hZa hZb h1x h1b hal hxl hbl hAX hZl hZ1 hni hZc hrc hrl hAl hCl
  have hg1' := Lib.hid hg1
  clear hg1
  have hc1i : ¬ c1 = i := by omega
  have hci : ¬ c = i := by omega
  have hin : ¬ (i : Int) = (n : Int) := by omega
  have hc1j : ¬ c1 = i + 1 := by omega
  have hw1 : IntKind.i64.wrap ((i : Int) + 1) = (i : Int) + 1 := IntWalk.i64_in _ ⟨by omega, by omega⟩
  have hb0 : (0 : Int) ≤ (i : Int) + 1 := by omega
  have htn : ((i : Int) + 1).toNat = i + 1 := by omega
  have hb3 : (i : Int) ≤ (n : Int) := by omega
  have hb4 : i ≤ n := by omega
  go_enter Tryd.func25, Tryd.ntmps25
  go_wp2_with (first
    | (at_builtin; refine Lib.wpList_append_run _ rfl (.tmp 34) (.tmp 39) _ _ rfl _ _ rfl rfl _ _ RUN.out ?_)
    | (refine wpList_copy_whole layFce Tryd.underlying22 rfl (.tmp 43) (.tmp 44) rfl g1 (i * (layFce).size) A M1 (M2 ++ R2) X 49 HH1.out HAL.out HMA.out H1X.out (n + 1 - i) (c1 - i) 1 1 1 ⟨vb, 0, none⟩ (Nat.min_eq_left (by omega)) (by rw [HXL.out, Nat.one_mul]) (fun j u hj => by rw [Addr.add_mid]; exact HVC.out j u hj) rfl rfl ?_; intro w2 hh2 hb2 ho2 hs2; have HH2 := Lib.hid hh2; have HB2 := Lib.hid hb2; have HO2 := Lib.hid ho2; clear hh2 hb2 ho2))
  go_still_tail 8, (by kernel_rfl)
  change wpList _ _ _ _ _ w2.drew
  have hd2 : Below w.heap.size w2 w2.drew := (Below.refl _ _).drew
  have HH3 : Hid (w2.drew.heap[g1]? = some (.cells (A ++ (X ++ (M2 ++ R2))).toArray 49 (0, 0))) := HH2.out
  have HCG3 : Hid (∀ j u, (A ++ Bs)[j]? = some u → w2.drew.cell? ⟨g, 0 + j, none⟩ = some u) := fun j u hj => by
    have : w2.drew.cell? ⟨g, 0 + j, none⟩ = w1.cell? ⟨g, 0 + j, none⟩ := World.cell?_of_block (w := w1) (HO2.out g hgg)
    rw [this]; exact HCG.out j u hj
  generalize w2.drew = w3 at hd2 HH3 HCG3 ⊢
  clear HH2 HO2
  refine wpList_copy_whole layFce Tryd.underlying22 rfl (.tmp 50) (.tmp 53) rfl g1 ((i + 1) * (layFce).size) (A ++ X) M2 R2 Bs 49 (by rw [List.append_assoc]; exact HH3.out) HAX.out HMB.out H1B.out (n - i) (c1 - (i + 1)) (n - i) (c - i) (n - i) ⟨g, i * (layFce).size, none⟩ (Nat.min_self _) HBL.out (fun j u hj => by
    rw [Addr.add_mid]
    have := HCG3.out (i * (layFce).size + j) u (by rw [List.getElem?_append_right (by rw [HAL.out]; omega), HAL.out, Nat.add_sub_cancel_left]; exact hj)
    rw [Nat.zero_add] at this; exact this) (by simp [Act.eval]; first | rfl | omega) rfl ?_
  intro w4 hh4 hb4 ho4 hs4
  have HH4 := Lib.hid hh4
  have HB4 := Lib.hid hb4
  clear hh4 hb4 ho4
  go_wp2
  go_returns
  have hfin : w4.heap[g1]? = some (.cells ((A ++ (X ++ Bs)) ++ R2).toArray 49 (0, 0)) := by rw [HH4.out]; congr 3; simp
  have hres : (A ++ (X ++ Bs)).length = (n + 1) * (layFce).size := by rw [← HRC.out, (layFce).length, HRL.out]
  refine ⟨some ⟨g1, 0, none⟩, c1, by rw [HRL.out]; rfl, ?_, ?_⟩
  · rw [HRL.out, HRC.out]
    exact own_of_whole (D := R2) (by rw [hg1'.out]; exact hB) hc1 hcm1 hres hfin (by rw [List.length_append, hres]; have := HZC.out; omega)
  · have q1 : Below B w w2 := (hb1.mono hB).trans (HB2.out B (by rw [hg1'.out]; exact hB))
    exact (q1.trans (hd2.mono hB)).trans (HB4.out B (by rw [hg1'.out]; exact hB))

set_option maxHeartbeats 4000000 in
set_option maxRecDepth 100000 in
/-- There is room: in place. -/
theorem insertShiftFce (xs : List Force) (x : Force) (i n c g : Nat) (vb : Nat) (te : TypeId) (B : Nat) (w : World) (hn : xs.length = n) (hi : i < n) (hc : n + 1 ≤ c) (hown : w.ownsRow B 49 (layFce).size (.slice (some ⟨g, 0, none⟩) n c) n (xs.flatMap (layFce).cells))
    (hv : w.heap[vb]? = some (.cells ((layFce).cells x).toArray te (0, 0))) (hne : vb ≠ g) (hby : (n + 1) * (layFce).bytes ≤ 140737488355328) :
    Calls Tryd.prog 25 #[.slice (some ⟨g, 0, none⟩) n c, .int .i64 i, .slice (some ⟨vb, 0, none⟩) 1 1] w (RetInsFce B w (xs.take i ++ x :: xs.drop i)) := by
  obtain ⟨hBg, hnc, hcm, hAl, D, hg, hCl⟩ := own_whole hown
  have hbp := (layFce).bpos
  have hsp := (layFce).pos
  have hn1 : n + 1 ≤ 140737488355328 := Nat.le_trans (Nat.le_mul_of_pos_right _ hbp) hby
  have hAB : xs.flatMap (layFce).cells = (xs.take i).flatMap (layFce).cells ++ (xs.drop i).flatMap (layFce).cells := by rw [← List.flatMap_append, List.take_append_drop]
  have hal : ((xs.take i).flatMap (layFce).cells).length = i * (layFce).size := by rw [(layFce).length, List.length_take]; congr 1; omega
  have hbl : ((xs.drop i).flatMap (layFce).cells).length = (n - i) * (layFce).size := by rw [(layFce).length, List.length_drop, hn]
  have hxl := (layFce).len x
  have h1x := (layFce).one x
  have h1b := (layFce).ones (xs.drop i)
  have hrl : (xs.take i ++ x :: xs.drop i).length = n + 1 := by simp; omega
  have hrc := midFce_cells xs x i
  have hov := fun (o lb cb : Nat) => overlapsFce_no w vb g o 1 1 lb cb te 49 _ _ hne hv hg (by
    rw [List.size_toArray, hCl]
    have := Nat.mul_pos (show 0 < c by omega) hsp
    omega)
  generalize hR : (xs.take i ++ x :: xs.drop i) = res at hrl hrc ⊢
  generalize hxa : (xs.take i).flatMap (layFce).cells = A at hAB hal hrc
  generalize hxb : (xs.drop i).flatMap (layFce).cells = Bs at hAB hbl h1b hrc
  generalize hxc : (layFce).cells x = X at hv hxl h1x hrc
  rw [hAB] at hg hCl
  have hvl : vb < w.heap.size := (Array.getElem?_eq_some_iff.1 hv).1
  have hvc : ∀ j u, X[j]? = some u → w.cell? ⟨vb, 0 + j, none⟩ = some u := fun j u hj => by
    simp only [World.cell?, hv, Nat.zero_add, Option.isSome_none, Bool.false_eq_true, if_false]
    rw [List.getElem?_toArray, hj]
  have hcellg : ∀ j u, (A ++ Bs)[j]? = some u → w.cell? ⟨g, 0 + j, none⟩ = some u := fun j u hj => by
    have hlt := (List.getElem?_eq_some_iff.1 hj).1
    simp only [World.cell?, hg, Nat.zero_add, Option.isSome_none, Bool.false_eq_true, if_false]
    rw [List.getElem?_toArray, List.getElem?_append_left hlt, hj]
  have hcs := Nat.mul_le_mul_right (layFce).size hc
  have hni : (n + 1) * (layFce).size = i * (layFce).size + (layFce).size + (n - i) * (layFce).size := by rw [← Nat.succ_mul, ← Nat.add_mul]; congr 1; omega
  have hi1 : (i + 1) * (layFce).size = i * (layFce).size + (layFce).size := Nat.succ_mul _ _
  have hT : Bs ++ D = (Bs ++ D).take (layFce).size ++ (((Bs ++ D).drop (layFce).size).take ((n - i) * (layFce).size) ++ ((Bs ++ D).drop (layFce).size).drop ((n - i) * (layFce).size)) := by rw [List.take_append_drop, List.take_append_drop]
  have hTl : (Bs ++ D).length + i * (layFce).size = c * (layFce).size := by rw [List.length_append, List.length_append, hal] at hCl; rw [List.length_append]; omega
  have hMa : ((Bs ++ D).take (layFce).size).length = X.length := by rw [List.length_take, hxl]; omega
  have hMb : (((Bs ++ D).drop (layFce).size).take ((n - i) * (layFce).size)).length = Bs.length := by rw [List.length_take, List.length_drop, hbl]; omega
  have hMc : (((Bs ++ D).drop (layFce).size).drop ((n - i) * (layFce).size)).length + (n + 1) * (layFce).size = c * (layFce).size := by rw [List.length_drop, List.length_drop]; omega
  rw [List.append_assoc, hT] at hg
  generalize (Bs ++ D).take (layFce).size = M1 at hg hMa
  generalize ((Bs ++ D).drop (layFce).size).take ((n - i) * (layFce).size) = M2 at hg hMb
  generalize ((Bs ++ D).drop (layFce).size).drop ((n - i) * (layFce).size) = R2 at hg hMc
  have hAM : (A ++ M1).length = (i + 1) * (layFce).size := by rw [List.length_append, hal, hMa, hxl, Nat.succ_mul]
  have hcm' := lt_maxLen hcm
  have HG := Lib.hid hg
  have HVC := Lib.hid hvc
  have HCG := Lib.hid hcellg
  have HMA := Lib.hid hMa
  have HMB := Lib.hid hMb
  have H1X := Lib.hid h1x
  have H1B := Lib.hid h1b
  have HAL := Lib.hid hal
  have HXL := Lib.hid hxl
  have HBL := Lib.hid hbl
  have HAM := Lib.hid hAM
  have HMC := Lib.hid hMc
  have HRC := Lib.hid hrc
  have HRL := Lib.hid hrl
  clear hT hTl hcellg hvc hg hv hown hAB hxa hxb hxc hR hMa hMb h1x h1b hal hxl hbl hAM hni hi1 hcs hMc hrc hrl hAl hCl
  have hci : ¬ c = i := by omega
  have hin : ¬ (i : Int) = (n : Int) := by omega
  have hcj : ¬ c = i + 1 := by omega
  have hw1 : IntKind.i64.wrap ((i : Int) + 1) = (i : Int) + 1 := IntWalk.i64_in _ ⟨by omega, by omega⟩
  have hb0 : (0 : Int) ≤ (i : Int) + 1 := by omega
  have htn : ((i : Int) + 1).toNat = i + 1 := by omega
  have hb3 : (i : Int) ≤ (n : Int) := by omega
  have hb4 : i ≤ n := by omega
  have hb5 : (i : Int) ≤ (n : Int) + 1 := by omega
  have hb6 : i ≤ n + 1 := by omega
  go_enter Tryd.func25, Tryd.ntmps25
  go_wp2_with (simp only [hov])
  go_still_tail 8, (by kernel_rfl)
  change wpList _ _ _ _ _ w.drew
  have hd2 : Below g w w.drew := (Below.refl _ _).drew
  have HG3 : Hid (w.drew.heap[g]? = some (.cells (A ++ (M1 ++ (M2 ++ R2))).toArray 49 (0, 0))) := HG.out
  have HCG3 : Hid (∀ j u, (A ++ Bs)[j]? = some u → w.drew.cell? ⟨g, 0 + j, none⟩ = some u) := HCG.out
  have HVC3 : Hid (∀ j u, X[j]? = some u → w.drew.cell? ⟨vb, 0 + j, none⟩ = some u) := HVC.out
  clear hov HG HCG HVC
  generalize w.drew = w3 at hd2 HG3 HCG3 HVC3 ⊢
  refine wpList_copy_whole layFce Tryd.underlying22 rfl (.tmp 73) (.tmp 76) rfl g ((i + 1) * (layFce).size) (A ++ M1) M2 R2 Bs 49 (by rw [List.append_assoc]; exact HG3.out) HAM.out HMB.out H1B.out (n - i) (c - (i + 1)) (n + 1 - i) (c - i) (n - i) ⟨g, i * (layFce).size, none⟩ (Nat.min_eq_right (by omega)) HBL.out (fun j u hj => by
    rw [Addr.add_mid]
    have := HCG3.out (i * (layFce).size + j) u (by rw [List.getElem?_append_right (by rw [HAL.out]; omega), HAL.out, Nat.add_sub_cancel_left]; exact hj)
    rw [Nat.zero_add] at this; exact this) (by simp [Act.eval]; first | rfl | omega) (by simp [Act.eval]; first | rfl | omega) ?_
  intro w4 hh4 hb4 ho4 hs4
  have HH4 : Hid (w4.heap[g]? = some (.cells (A ++ (M1 ++ (Bs ++ R2))).toArray 49 (0, 0))) := by show _ = _; rw [hh4, List.append_assoc]
  have HB4 := Lib.hid hb4
  have HVC4 : Hid (∀ j u, X[j]? = some u → w4.cell? ⟨vb, 0 + j, none⟩ = some u) := fun j u hj => by
    have : w4.cell? ⟨vb, 0 + j, none⟩ = w3.cell? ⟨vb, 0 + j, none⟩ := World.cell?_of_block (w := w3) (ho4 vb hne)
    rw [this]; exact HVC3.out j u hj
  clear hh4 hb4 ho4
  go_wp2_with (refine wpList_copy_whole layFce Tryd.underlying22 rfl (.tmp 80) (.tmp 81) rfl g (i * (layFce).size) A M1 (Bs ++ R2) X 49 HH4.out HAL.out HMA.out H1X.out (n + 1 - i) (c - i) 1 1 1 ⟨vb, 0, none⟩ (Nat.min_eq_left (by omega)) (by rw [HXL.out, Nat.one_mul]) (fun j u hj => by rw [Addr.add_mid]; exact HVC4.out j u hj) rfl rfl ?_; intro w5 hh5 hb5 ho5 hs5; have HH5 := Lib.hid hh5; have HB5 := Lib.hid hb5; clear hh5 hb5 ho5)
  go_returns
  have hfin : w5.heap[g]? = some (.cells ((A ++ (X ++ Bs)) ++ R2).toArray 49 (0, 0)) := by rw [HH5.out]; congr 3; simp
  have hres : (A ++ (X ++ Bs)).length = (n + 1) * (layFce).size := by rw [← HRC.out, (layFce).length, HRL.out]
  refine ⟨some ⟨g, 0, none⟩, c, by rw [HRL.out]; rfl, ?_, ?_⟩
  · rw [HRL.out, HRC.out]
    exact own_of_whole (D := R2) hBg hc hcm hres hfin (by rw [List.length_append, hres]; have := HMC.out; omega)
  · exact ((hd2.mono hBg).trans (HB4.out B hBg)).trans (HB5.out B hBg)

def RetInsNFce (B : Nat) (w : World) (m : Nat) (xs : List Force) (e : Ending) (w' : World) : Prop :=
  ∃ a' c', e = .returned (.slice a' m c') ∧ w'.ownsRow B 49 (layFce).size (.slice a' m c') m (xs.flatMap (layFce).cells) ∧ Below B w w'
/-- slices.Insert of one thing, wherever. -/
theorem insertFce (xs : List Force) (x : Force) (i n c : Nat) (a : Option Addr) (vb : Nat) (te : TypeId) (B : Nat) (w : World) (hn : xs.length = n) (hi : i ≤ n) (hcan : Can w B 49 (layFce).size a n c (xs.flatMap (layFce).cells))
    (hown : 0 < n → w.ownsRow B 49 (layFce).size (.slice a n c) n (xs.flatMap (layFce).cells)) (hv : w.heap[vb]? = some (.cells ((layFce).cells x).toArray te (0, 0))) (hne : ∀ b o s, a = some ⟨b, o, s⟩ → vb ≠ b) (hby : (n + 1) * (layFce).bytes ≤ 140737488355328) (hB : B ≤ w.heap.size) :
    Calls Tryd.prog 25 #[.slice a n c, .int .i64 i, .slice (some ⟨vb, 0, none⟩) 1 1] w (RetInsNFce B w (n + 1) (xs.take i ++ x :: xs.drop i)) := by
  have hlen : (xs.take i ++ x :: xs.drop i).length = n + 1 := by simp; omega
  have fin : ∀ e w', RetInsFce B w (xs.take i ++ x :: xs.drop i) e w' → RetInsNFce B w (n + 1) (xs.take i ++ x :: xs.drop i) e w' := fun e w' ⟨a', c', h1, h2, h3⟩ => by
    rw [hlen] at h1 h2
    exact ⟨a', c', h1, h2, h3⟩
  refine Calls.mono ?_ fin
  by_cases h : i = n
  · subst h
    have := insertEndFce xs x i c a vb te B w hn hcan hv hby hB
    rw [List.take_of_length_le (by omega), List.drop_of_length_le (by omega)]
    exact this
  · have ho := hown (by omega)
    obtain ⟨g, rfl, hBg, hcm⟩ := own_head ho (by intro h0; have := congrArg List.length h0; rw [(layFce).length, List.length_nil, Nat.mul_eq_zero] at this; have := (layFce).pos; omega)
    by_cases hc : c < n + 1
    · exact insertGrowFce xs x i n c g vb te B w hn (by omega) hc ho hv hby hB
    · exact insertShiftFce xs x i n c g vb te B w hn (by omega) (by omega) ho hv (hne g 0 none rfl) hby
end Go.Proofs.YtkboojpkkhiceaaDoor

/- slices.Clone: the same things in a row that may be written. -/
namespace Go.Proofs.YtkboojpkkhiceaaDoor
open Go.ChangeShapes Go.WideShapes Go.ChangeAt Go.RowKit
set_option maxRecDepth 100000

def RetOwnFce (w : World) (xs : List Force) (e : Ending) (w' : World) : Prop :=
  ∃ a c, e = .returned (.slice a xs.length c) ∧ Near w.heap.size none a ∧ Can w' w.heap.size 49 (layFce).size a xs.length c (xs.flatMap (layFce).cells) ∧
    (0 < xs.length → w'.ownsRow w.heap.size 49 (layFce).size (.slice a xs.length c) xs.length (xs.flatMap (layFce).cells)) ∧ (∀ b o s, a = some ⟨b, o, s⟩ → b < w'.heap.size) ∧ Below w.heap.size w w'

theorem cloneFce (xs : List Force) (a : Option Addr) (n c : Nat) (w : World) (hn : xs.length = n) (hby : n * (layFce).bytes ≤ 140737488355328) (hm : n ≤ maxLen) (hc : a = none → c = 0) (hnc : n ≤ c) (hr : LRow layFce w a xs) :
    Calls Tryd.prog 19 #[.slice a n c] w (RetOwnFce w xs) := by
  subst hn
  cases a with
  | none =>
    obtain rfl := hc rfl
    have h0 : xs.length = 0 := by omega
    obtain rfl : xs = [] := List.eq_nil_of_length_eq_zero h0
    go_enter Tryd.func19, Tryd.ntmps19
    have hnil := Lib.run_eql_slice_nil (P := Tryd.prog) w 22 49 none 0 0 0 0 Tryd.underlying22
    go_wp2
    go_returns
    exact ⟨none, 0, rfl, Near.nil _ _, Can.nil _ _ _ _, fun h => absurd h (by simp), fun _ _ _ h => (by cases h), Below.refl _ _⟩
  | some x =>
    have HR := Lib.hid hr
    clear hr
    go_enter Tryd.func19, Tryd.ntmps19
    have hnil := Lib.run_eql_slice_nil (P := Tryd.prog) w 22 49 (some x) xs.length c 0 0 Tryd.underlying22
    go_wp2_with (at_builtin; refine wpList_can ((layFce).elem Tryd.underlying22) rfl _ _ rfl w.heap.size _ 0 _ _ rfl (Can.empty _ _ _ _ _) _ xs.length _ (xs.flatMap (layFce).cells) rfl ((layFce).length _) (Row.alloc HR.out _) ((layFce).ones _) (by rw [Nat.zero_add]; exact hby) (by simp) ?_; intro a' c' w3 hcan3 _ hb3 hown)
    go_returns
    rw [Nat.zero_add, List.nil_append] at hcan3 hown
    have hnear : Near w.heap.size none a' := by
      by_cases h0 : 0 < xs.length
      · exact Near.own (hown.1 h0) (Nat.le_refl _)
      · rw [(hown.2 (by omega)).1]
        intro b o s hb
        simp at hb
        exact .inl (by omega)
    have hblt : ∀ b o s, a' = some ⟨b, o, s⟩ → b < w3.heap.size := fun b o s hab => by
      by_cases h0 : 0 < xs.length
      · exact ((hown.1 h0).lt b (by rw [hab]; rfl)).2
      · have h1 := hb3.size
        rw [(hown.2 (by omega)).1] at hab
        simp at hab h1
        omega
    exact ⟨a', c', rfl, hnear, hcan3, fun h => hown.1 h, hblt, ((Below.refl _ _).alloc (Nat.le_refl _) _).trans hb3⟩
end Go.Proofs.YtkboojpkkhiceaaDoor

/- Numbers as bytes, things written and read: plain functions, no program in sight. -/
namespace Go.Proofs.YtkboojpkkhiceaaDoor

/-! Numbers as bytes, the greatest first. -/
def beN : Nat → Nat → List UInt8
  | 0, _ => []
  | k + 1, u => UInt8.ofNat (u / 256 ^ k % 256) :: beN k u
def beVal (l : List UInt8) : Nat := l.foldl (fun a b => a * 256 + b.toNat) 0
theorem beN_length : ∀ k u, (beN k u).length = k
  | 0, _ => rfl
  | k + 1, u => by rw [beN, List.length_cons, beN_length k u]
theorem foldl_be : ∀ (l : List UInt8) (a : Nat), l.foldl (fun a b => a * 256 + b.toNat) a = a * 256 ^ l.length + beVal l
  | [], a => by simp [beVal]
  | b :: l, a => by
    unfold beVal
    rw [List.foldl_cons, List.foldl_cons, foldl_be l, foldl_be l (0 * 256 + b.toNat), List.length_cons, Nat.pow_succ, Nat.zero_mul, Nat.zero_add, Nat.add_mul, Nat.mul_assoc, Nat.mul_comm 256]
    omega
theorem beVal_cons (b : UInt8) (l : List UInt8) : beVal (b :: l) = b.toNat * 256 ^ l.length + beVal l := by
  show (b :: l).foldl _ 0 = _
  rw [List.foldl_cons, foldl_be, Nat.zero_mul, Nat.zero_add]
theorem beVal_lt : ∀ l : List UInt8, beVal l < 256 ^ l.length
  | [] => by simp [beVal]
  | b :: l => by
    rw [beVal_cons, List.length_cons, Nat.pow_succ]
    have h1 := beVal_lt l
    have h2 := b.toNat_lt
    have h3 : b.toNat * 256 ^ l.length ≤ 255 * 256 ^ l.length := Nat.mul_le_mul_right _ (by omega)
    omega
theorem beVal_snoc (l : List UInt8) (b : UInt8) : beVal (l ++ [b]) = beVal l * 256 + b.toNat := by
  unfold beVal; rw [List.foldl_append]; rfl
theorem beVal_beN : ∀ k u, beVal (beN k u) = u % 256 ^ k
  | 0, u => by simp [beN, beVal, Nat.mod_one]
  | k + 1, u => by
    have : u / 256 ^ k % 256 % 2 ^ 8 = u / 256 ^ k % 256 := Nat.mod_eq_of_lt (Nat.mod_lt _ (by decide))
    rw [beN, beVal_cons, beN_length, beVal_beN k u, UInt8.toNat_ofNat', this, Nat.mod_pow_succ, Nat.mul_comm, Nat.add_comm]
theorem beN_add : ∀ k a v, beN k (a * 256 ^ k + v) = beN k v
  | 0, _, _ => rfl
  | k + 1, a, v => by
    have e : a * 256 ^ (k + 1) = a * 256 * 256 ^ k := by rw [Nat.pow_succ, Nat.mul_comm (256 ^ k), Nat.mul_assoc]
    rw [beN, beN, e, beN_add k, Nat.mul_comm (a * 256), Nat.mul_add_div (Nat.pow_pos (by decide)), Nat.mul_comm a, Nat.mul_add_mod]
theorem beN_beVal : ∀ l : List UInt8, beN l.length (beVal l) = l
  | [] => rfl
  | b :: l => by
    rw [List.length_cons, beN, beVal_cons, beN_add, beN_beVal l, Nat.mul_comm, Nat.mul_add_div (Nat.pow_pos (by decide)), Nat.div_eq_of_lt (beVal_lt l), Nat.add_zero]
    have h2 := b.toNat_lt
    rw [Nat.mod_eq_of_lt (by omega)]
    simp
def u64 (n : Int) : Nat := (n % 18446744073709551616).toNat
def i64 (u : Nat) : Int := if u < 9223372036854775808 then u else u - 18446744073709551616
def InI (n : Int) : Prop := -9223372036854775808 ≤ n ∧ n < 9223372036854775808
theorem i64_u64 {n : Int} (h : InI n) : i64 (u64 n) = n := by
  unfold InI at h
  unfold i64 u64
  split <;> omega
theorem u64_i64 {u : Nat} (h : u < 18446744073709551616) : u64 (i64 u) = u := by
  unfold i64 u64
  split <;> omega
theorem i64_in {u : Nat} (h : u < 18446744073709551616) : InI (i64 u) := by
  unfold i64 InI
  split <;> omega
theorem u64_lt (n : Int) : u64 n < 18446744073709551616 := by unfold u64; omega
def be8 (n : Int) : List UInt8 := beN 8 (u64 n)
def num8 (l : List UInt8) : Int := i64 (beVal l)
theorem be8_length (n : Int) : (be8 n).length = 8 := beN_length _ _
theorem num8_be8 {n : Int} (h : InI n) : num8 (be8 n) = n := by
  unfold num8 be8
  rw [beVal_beN, Nat.mod_eq_of_lt (by have := u64_lt n; omega), i64_u64 h]
theorem be8_num8 {l : List UInt8} (h : l.length = 8) : be8 (num8 l) = l := by
  unfold num8 be8
  have h1 := beVal_lt l
  rw [h] at h1
  rw [u64_i64 (by omega)]
  have := beN_beVal l
  rw [h] at this; exact this
theorem num8_in {l : List UInt8} (h : l.length = 8) : InI (num8 l) := by
  have h1 := beVal_lt l
  rw [h] at h1
  exact i64_in (by omega)
def kindB (k : Int) : UInt8 := UInt8.ofNat (k % 256).toNat
def kindI (b : UInt8) : Int := if b.toNat < 128 then b.toNat else b.toNat - 256
theorem kindI_kindB {k : Int} (h : -128 ≤ k ∧ k < 128) : kindI (kindB k) = k := by
  unfold kindI kindB
  rw [UInt8.toNat_ofNat']
  split <;> omega
theorem kindB_kindI (b : UInt8) : kindB (kindI b) = b := by
  have h := b.toNat_lt
  unfold kindI kindB
  have : ((if b.toNat < 128 then (b.toNat : Int) else b.toNat - 256) % 256).toNat = b.toNat := by split <;> omega
  rw [this]; simp
theorem kindI_in (b : UInt8) : -128 ≤ kindI b ∧ kindI b < 128 := by
  have h := b.toNat_lt
  unfold kindI; split <;> omega
def truthB (x : Bool) : UInt8 := if x then 1 else 0

/-! Reading: what is there, or the first byte that cannot stand there. -/
abbrev Got (α : Type) := Except Nat (α × Nat)
def bindP {α β : Type} (x : Got α) (f : α → Nat → Got β) : Got β := match x with | .error e => .error e | .ok (a, q) => f a q
def needP (k : Nat) (l : List UInt8) (p : Nat) : Got (List UInt8) := if l.length - p < k then .error l.length else .ok ((l.drop p).take k, p + k)
def numP (l : List UInt8) (p : Nat) : Got Int := bindP (needP 8 l p) fun b q => .ok (num8 b, q)
def smallP (l : List UInt8) (p : Nat) : Got UInt8 := bindP (needP 1 l p) fun b q => .ok (b.headD 0, q)
def kindP (l : List UInt8) (p : Nat) : Got Int := bindP (smallP l p) fun b q => .ok (kindI b, q)
def truthP (l : List UInt8) (p : Nat) : Got Bool := bindP (smallP l p) fun b q => if 1 < b.toNat then .error (q - 1) else .ok (b.toNat == 1, q)
def countP (size : Nat) (l : List UInt8) (p : Nat) : Got Nat := bindP (numP l p) fun n q => if n < 0 ∨ n > ((l.length - q) / size : Nat) then .error p else .ok (n.toNat, q)
def bytesP (l : List UInt8) (p : Nat) : Got (List UInt8) := bindP (countP 1 l p) fun n q => needP n l q
def timesP {α : Type} (one : List UInt8 → Nat → Got α) : Nat → List UInt8 → Nat → Got (List α)
  | 0, _, p => .ok ([], p)
  | n + 1, l, p => bindP (one l p) fun x q => bindP (timesP one n l q) fun xs q => .ok (x :: xs, q)
def listP {α : Type} (size : Nat) (one : List UInt8 → Nat → Got α) (l : List UInt8) (p : Nat) : Got (List α) := bindP (countP size l p) fun n q => timesP one n l q
def readP {α : Type} (zero : α) (one : List UInt8 → Nat → Got α) (l : List UInt8) : α × Nat × Int :=
  if 1048576 < l.length then (zero, 0, 3)
  else match one l 0 with
    | .error f => (zero, f, 50)
    | .ok (x, q) => if q < l.length then (zero, q, 50) else (x, 0, 0)

/-! One written thing is read as it was, whatever stands ahead and behind. -/
def Reads {α : Type} (one : List UInt8 → Nat → Got α) (x : α) (b : List UInt8) : Prop := ∀ pre post : List UInt8, one (pre ++ b ++ post) pre.length = .ok (x, pre.length + b.length)
/-- What is read was written so. -/
def Wrote1 {α : Type} (one : List UInt8 → Nat → Got α) (enc : α → List UInt8) (good : α → Prop) : Prop := ∀ (l : List UInt8) (p : Nat) (x : α) (q : Nat), p ≤ l.length → one l p = .ok (x, q) → p ≤ q ∧ q ≤ l.length ∧ (l.drop p).take (q - p) = enc x ∧ good x
theorem need_reads (b : List UInt8) : Reads (needP b.length) b b := fun pre post => by
  unfold needP
  rw [if_neg (by simp)]
  simp
theorem bind_reads {α β : Type} {o : List UInt8 → Nat → Got α} {f : α → List UInt8 → Nat → Got β} {x : α} {y : β} {b c : List UInt8} (h : Reads o x b) (h2 : Reads (f x) y c) : Reads (fun l p => bindP (o l p) fun a q => f a l q) y (b ++ c) := fun pre post => by
  have h1 := h pre (c ++ post)
  have h3 := h2 (pre ++ b) post
  simp only [List.append_assoc] at h1 h3 ⊢
  simp only [h1, bindP]
  rw [List.length_append] at h3
  rw [h3, List.length_append, Nat.add_assoc]
theorem pure_reads {α : Type} (x : α) : Reads (fun _ p => .ok (x, p)) x [] := fun pre post => by simp
theorem map_reads {α β : Type} {o : List UInt8 → Nat → Got α} {g : α → β} {x : α} {b : List UInt8} (h : Reads o x b) : Reads (fun l p => bindP (o l p) fun a q => .ok (g a, q)) (g x) b := by
  have := bind_reads (f := fun a _ p => .ok (g a, p)) h (pure_reads (g x))
  rw [List.append_nil] at this; exact this
theorem num_reads {n : Int} (h : InI n) : Reads numP n (be8 n) := by
  have h1 := need_reads (be8 n)
  rw [be8_length] at h1
  have h2 := map_reads (g := num8) h1
  rw [num8_be8 h] at h2
  exact h2
theorem small_reads (b : UInt8) : Reads smallP b [b] := map_reads (g := fun b : List UInt8 => b.headD 0) (need_reads [b])
theorem kind_reads {k : Int} (h : -128 ≤ k ∧ k < 128) : Reads kindP k [kindB k] := by
  have h2 := map_reads (g := kindI) (small_reads (kindB k))
  rw [kindI_kindB h] at h2
  exact h2
theorem truth_reads (x : Bool) : Reads truthP x [truthB x] := fun pre post => by
  have h := small_reads (truthB x) pre post
  unfold truthP
  rw [h]
  cases x <;> rfl
theorem count_reads {size n : Nat} {c : List UInt8} (hn : n < 9223372036854775808) (hs : 0 < size) (hc : n * size ≤ c.length) (pre post : List UInt8) : countP size (pre ++ be8 n ++ (c ++ post)) pre.length = .ok (n, pre.length + 8) := by
  have h := num_reads (n := n) (by unfold InI; omega) pre (c ++ post)
  unfold countP
  rw [h]
  simp only [bindP]
  rw [be8_length, if_neg]
  · simp
  · rw [not_or]
    refine ⟨by omega, ?_⟩
    have : n ≤ ((pre ++ be8 ↑n ++ (c ++ post)).length - (pre.length + 8)) / size := by
      rw [Nat.le_div_iff_mul_le hs]
      simp only [List.length_append, be8_length]
      omega
    omega
theorem bytes_reads {d : List UInt8} (h : d.length < 9223372036854775808) : Reads bytesP d (be8 d.length ++ d) := fun pre post => by
  have h1 := count_reads (size := 1) (n := d.length) (c := d) h (by decide) (by omega) pre post
  have h2 := need_reads d (pre ++ be8 d.length) post
  unfold bytesP
  simp only [List.append_assoc] at h1 h2 ⊢
  rw [h1]
  simp only [bindP]
  rw [List.length_append, be8_length] at h2
  rw [h2, List.length_append, be8_length]; simp [Nat.add_assoc]
theorem times_reads {α : Type} {one : List UInt8 → Nat → Got α} {enc : α → List UInt8} : ∀ {xs : List α}, (∀ x ∈ xs, Reads one x (enc x)) → Reads (timesP one xs.length) xs (xs.flatMap enc)
  | [], _ => pure_reads []
  | x :: xs, h => by
    have h1 := h x (List.mem_cons_self ..)
    have h2 := times_reads (xs := xs) fun y hy => h y (List.mem_cons_of_mem _ hy)
    exact bind_reads (f := fun a l q => bindP (timesP one xs.length l q) fun ys q => .ok (a :: ys, q)) h1 (map_reads (g := fun ys => x :: ys) h2)
theorem list_reads {α : Type} {one : List UInt8 → Nat → Got α} {enc : α → List UInt8} {size : Nat} {xs : List α} (hs : 0 < size) (hl : xs.length < 9223372036854775808) (h : ∀ x ∈ xs, Reads one x (enc x)) (hz : ∀ x ∈ xs, size ≤ (enc x).length) :
    Reads (listP size one) xs (be8 xs.length ++ xs.flatMap enc) := fun pre post => by
  have hlen : xs.length * size ≤ (xs.flatMap enc).length := by
    induction xs with
    | nil => simp
    | cons x xs ih =>
      have h1 := hz x (List.mem_cons_self ..)
      have h2 := ih (by rw [List.length_cons] at hl; omega) (fun y hy => h y (List.mem_cons_of_mem _ hy)) (fun y hy => hz y (List.mem_cons_of_mem _ hy))
      rw [List.flatMap_cons, List.length_append, List.length_cons, Nat.succ_mul]; omega
  have h1 := count_reads (size := size) (n := xs.length) (c := xs.flatMap enc) hl hs hlen pre post
  have h2 := times_reads h (pre ++ be8 xs.length) post
  unfold listP
  simp only [List.append_assoc] at h1 h2 ⊢
  rw [h1]
  simp only [bindP]
  rw [List.length_append, be8_length] at h2
  rw [h2, List.length_append, be8_length]; simp [Nat.add_assoc]
/-! And back. -/
theorem need_wrote (k : Nat) : Wrote1 (needP k) (fun b => b) (fun b => b.length = k) := fun l p x q hp h => by
  unfold needP at h
  split at h
  · cases h
  · rename_i hk
    simp only [Except.ok.injEq, Prod.mk.injEq] at h
    obtain ⟨rfl, rfl⟩ := h
    refine ⟨by omega, by omega, by rw [Nat.add_sub_cancel_left], ?_⟩
    show (List.take k (List.drop p l)).length = k
    rw [List.length_take, List.length_drop]; omega
theorem take_two {l : List UInt8} {p q r : Nat} (h1 : p ≤ q) (h2 : q ≤ r) : (l.drop p).take (r - p) = (l.drop p).take (q - p) ++ (l.drop q).take (r - q) := by
  have e : r - p = (q - p) + (r - q) := by omega
  rw [e, List.take_add, List.drop_drop]
  congr 3; omega
theorem bind_wrote {α β : Type} {o : List UInt8 → Nat → Got α} {f : α → List UInt8 → Nat → Got β} {e1 : α → List UInt8} {g1 : α → Prop} {e2 : α → β → List UInt8} {g2 : α → β → Prop} (h : Wrote1 o e1 g1) (h2 : ∀ a, g1 a → Wrote1 (f a) (e2 a) (g2 a))
    {l : List UInt8} {p q : Nat} {y : β} (hp : p ≤ l.length) (hr : (bindP (o l p) fun a q => f a l q) = .ok (y, q)) : ∃ a, g1 a ∧ p ≤ q ∧ q ≤ l.length ∧ (l.drop p).take (q - p) = e1 a ++ e2 a y ∧ g2 a y := by
  cases ho : o l p with
  | error e => rw [ho] at hr; cases hr
  | ok v =>
    obtain ⟨a, m⟩ := v
    rw [ho] at hr
    simp only [bindP] at hr
    obtain ⟨i1, i2, i3, i4⟩ := h l p a m hp ho
    obtain ⟨j1, j2, j3, j4⟩ := h2 a i4 l m y q i2 hr
    exact ⟨a, i4, by omega, j2, by rw [take_two i1 j1, i3, j3], j4⟩
theorem pure_wrote {α : Type} (x : α) : Wrote1 (fun _ p => .ok (x, p)) (fun _ => []) (fun y => y = x) := fun l p y q hp h => by
  simp only [Except.ok.injEq, Prod.mk.injEq] at h
  obtain ⟨rfl, rfl⟩ := h
  simp [hp]
end Go.Proofs.YtkboojpkkhiceaaDoor

/- The arguments of history's laws opened. (printed by gen_hislay.py) -/
namespace Go.Proofs.YtkboojpkkhiceaaDoor
open Go.ChangeShapes Go.WideShapes Go.ChangeAt Go.RowKit
set_option maxRecDepth 100000

def GoodA (x : Ans) : Prop := InI x.e ∧ InI x.rate ∧ InI x.burst ∧ InI x.lease ∧ InI x.size
def GoodC (x : HCmd) : Prop := InI x.tenant ∧ InI x.rate ∧ InI x.burst ∧ -128 ≤ x.kind ∧ x.kind < 128
def GoodF (x : Force) : Prop := InI x.tick ∧ InI x.tenant ∧ InI x.rate ∧ InI x.burst
def GoodL (x : HCall) : Prop := GoodC x.cmd ∧ InI x.frm ∧ InI x.to ∧ GoodA x.ans
theorem open_hans {H : Type} {enc : TypeId × Value → H} {w : World} {cs : List Value} (h : Rd enc Tryd.prog w 31 cs) : ∃ x : Ans, cs = x.cells ∧ GoodA x := by
  obtain ⟨hl, hf⟩ := h.struct Tryd.underlying31
  rw [show Tryd.prog.cellsOf 31 = 5 by kernel_rfl] at hl
  match cs, hl with
  | [v0, v1, v2, v3, v4], _ =>
    have f0 : Rd enc Tryd.prog w 29 ((([v0, v1, v2, v3, v4] : List Value).drop 0).take (Tryd.prog.cellsOf 29)) := hf 0 _ rfl
    rw [show Tryd.prog.cellsOf 29 = 1 by kernel_rfl] at f0
    replace f0 : Rd enc Tryd.prog w 29 [v0] := f0
    have f1 : Rd enc Tryd.prog w 3 ((([v0, v1, v2, v3, v4] : List Value).drop 1).take (Tryd.prog.cellsOf 3)) := hf 1 _ rfl
    rw [show Tryd.prog.cellsOf 3 = 1 by kernel_rfl] at f1
    replace f1 : Rd enc Tryd.prog w 3 [v1] := f1
    have f2 : Rd enc Tryd.prog w 3 ((([v0, v1, v2, v3, v4] : List Value).drop 2).take (Tryd.prog.cellsOf 3)) := hf 2 _ rfl
    rw [show Tryd.prog.cellsOf 3 = 1 by kernel_rfl] at f2
    replace f2 : Rd enc Tryd.prog w 3 [v2] := f2
    have f3 : Rd enc Tryd.prog w 3 ((([v0, v1, v2, v3, v4] : List Value).drop 3).take (Tryd.prog.cellsOf 3)) := hf 3 _ rfl
    rw [show Tryd.prog.cellsOf 3 = 1 by kernel_rfl] at f3
    replace f3 : Rd enc Tryd.prog w 3 [v3] := f3
    have f4 : Rd enc Tryd.prog w 3 ((([v0, v1, v2, v3, v4] : List Value).drop 4).take (Tryd.prog.cellsOf 3)) := hf 4 _ rfl
    rw [show Tryd.prog.cellsOf 3 = 1 by kernel_rfl] at f4
    replace f4 : Rd enc Tryd.prog w 3 [v4] := f4
    obtain ⟨x0, e0, g0⟩ := f0.int Tryd.underlying29
    replace g0 := bounds_i64 g0
    simp only [List.cons.injEq, and_true] at e0
    subst e0
    obtain ⟨x1, e1, g1⟩ := f1.int Tryd.underlying3
    replace g1 := bounds_i64 g1
    simp only [List.cons.injEq, and_true] at e1
    subst e1
    obtain ⟨x2, e2, g2⟩ := f2.int Tryd.underlying3
    replace g2 := bounds_i64 g2
    simp only [List.cons.injEq, and_true] at e2
    subst e2
    obtain ⟨x3, e3, g3⟩ := f3.int Tryd.underlying3
    replace g3 := bounds_i64 g3
    simp only [List.cons.injEq, and_true] at e3
    subst e3
    obtain ⟨x4, e4, g4⟩ := f4.int Tryd.underlying3
    replace g4 := bounds_i64 g4
    simp only [List.cons.injEq, and_true] at e4
    subst e4
    exact ⟨⟨x0, x1, x2, x3, x4⟩, rfl, by refine ⟨?_, ?_, ?_, ?_, ?_⟩ <;> (unfold InI; dsimp only; omega)⟩
theorem open_hcmd {H : Type} {enc : TypeId × Value → H} {w : World} {cs : List Value} (h : Rd enc Tryd.prog w 26 cs) : ∃ x : HCmd, cs = x.cells ∧ GoodC x := by
  obtain ⟨hl, hf⟩ := h.struct Tryd.underlying26
  rw [show Tryd.prog.cellsOf 26 = 13 by kernel_rfl] at hl
  match cs, hl with
  | [v0, v1, v2, v3, v4, v5, v6, v7, v8, v9, v10, v11, v12], _ =>
    have f0 : Rd enc Tryd.prog w 23 ((([v0, v1, v2, v3, v4, v5, v6, v7, v8, v9, v10, v11, v12] : List Value).drop 0).take (Tryd.prog.cellsOf 23)) := hf 0 _ rfl
    rw [show Tryd.prog.cellsOf 23 = 1 by kernel_rfl] at f0
    replace f0 : Rd enc Tryd.prog w 23 [v0] := f0
    have f1 : Rd enc Tryd.prog w 3 ((([v0, v1, v2, v3, v4, v5, v6, v7, v8, v9, v10, v11, v12] : List Value).drop 1).take (Tryd.prog.cellsOf 3)) := hf 1 _ rfl
    rw [show Tryd.prog.cellsOf 3 = 1 by kernel_rfl] at f1
    replace f1 : Rd enc Tryd.prog w 3 [v1] := f1
    have f2 : Rd enc Tryd.prog w 3 ((([v0, v1, v2, v3, v4, v5, v6, v7, v8, v9, v10, v11, v12] : List Value).drop 2).take (Tryd.prog.cellsOf 3)) := hf 2 _ rfl
    rw [show Tryd.prog.cellsOf 3 = 1 by kernel_rfl] at f2
    replace f2 : Rd enc Tryd.prog w 3 [v2] := f2
    have f3 : Rd enc Tryd.prog w 3 ((([v0, v1, v2, v3, v4, v5, v6, v7, v8, v9, v10, v11, v12] : List Value).drop 3).take (Tryd.prog.cellsOf 3)) := hf 3 _ rfl
    rw [show Tryd.prog.cellsOf 3 = 1 by kernel_rfl] at f3
    replace f3 : Rd enc Tryd.prog w 3 [v3] := f3
    have f4 : Rd enc Tryd.prog w 3 ((([v0, v1, v2, v3, v4, v5, v6, v7, v8, v9, v10, v11, v12] : List Value).drop 4).take (Tryd.prog.cellsOf 3)) := hf 4 _ rfl
    rw [show Tryd.prog.cellsOf 3 = 1 by kernel_rfl] at f4
    replace f4 : Rd enc Tryd.prog w 3 [v4] := f4
    have f5 : Rd enc Tryd.prog w 3 ((([v0, v1, v2, v3, v4, v5, v6, v7, v8, v9, v10, v11, v12] : List Value).drop 5).take (Tryd.prog.cellsOf 3)) := hf 5 _ rfl
    rw [show Tryd.prog.cellsOf 3 = 1 by kernel_rfl] at f5
    replace f5 : Rd enc Tryd.prog w 3 [v5] := f5
    have f6 : Rd enc Tryd.prog w 3 ((([v0, v1, v2, v3, v4, v5, v6, v7, v8, v9, v10, v11, v12] : List Value).drop 6).take (Tryd.prog.cellsOf 3)) := hf 6 _ rfl
    rw [show Tryd.prog.cellsOf 3 = 1 by kernel_rfl] at f6
    replace f6 : Rd enc Tryd.prog w 3 [v6] := f6
    have f7 : Rd enc Tryd.prog w 3 ((([v0, v1, v2, v3, v4, v5, v6, v7, v8, v9, v10, v11, v12] : List Value).drop 7).take (Tryd.prog.cellsOf 3)) := hf 7 _ rfl
    rw [show Tryd.prog.cellsOf 3 = 1 by kernel_rfl] at f7
    replace f7 : Rd enc Tryd.prog w 3 [v7] := f7
    have f8 : Rd enc Tryd.prog w 3 ((([v0, v1, v2, v3, v4, v5, v6, v7, v8, v9, v10, v11, v12] : List Value).drop 8).take (Tryd.prog.cellsOf 3)) := hf 8 _ rfl
    rw [show Tryd.prog.cellsOf 3 = 1 by kernel_rfl] at f8
    replace f8 : Rd enc Tryd.prog w 3 [v8] := f8
    have f9 : Rd enc Tryd.prog w 3 ((([v0, v1, v2, v3, v4, v5, v6, v7, v8, v9, v10, v11, v12] : List Value).drop 9).take (Tryd.prog.cellsOf 3)) := hf 9 _ rfl
    rw [show Tryd.prog.cellsOf 3 = 1 by kernel_rfl] at f9
    replace f9 : Rd enc Tryd.prog w 3 [v9] := f9
    have f10 : Rd enc Tryd.prog w 3 ((([v0, v1, v2, v3, v4, v5, v6, v7, v8, v9, v10, v11, v12] : List Value).drop 10).take (Tryd.prog.cellsOf 3)) := hf 10 _ rfl
    rw [show Tryd.prog.cellsOf 3 = 1 by kernel_rfl] at f10
    replace f10 : Rd enc Tryd.prog w 3 [v10] := f10
    have f11 : Rd enc Tryd.prog w 4 ((([v0, v1, v2, v3, v4, v5, v6, v7, v8, v9, v10, v11, v12] : List Value).drop 11).take (Tryd.prog.cellsOf 4)) := hf 11 _ rfl
    rw [show Tryd.prog.cellsOf 4 = 1 by kernel_rfl] at f11
    replace f11 : Rd enc Tryd.prog w 4 [v11] := f11
    have f12 : Rd enc Tryd.prog w 24 ((([v0, v1, v2, v3, v4, v5, v6, v7, v8, v9, v10, v11, v12] : List Value).drop 12).take (Tryd.prog.cellsOf 24)) := hf 12 _ rfl
    rw [show Tryd.prog.cellsOf 24 = 1 by kernel_rfl] at f12
    replace f12 : Rd enc Tryd.prog w 24 [v12] := f12
    obtain ⟨x0, e0, g0⟩ := f0.int Tryd.underlying23
    replace g0 := bounds_i8 g0
    simp only [List.cons.injEq, and_true] at e0
    subst e0
    obtain ⟨x1, e1, g1⟩ := f1.int Tryd.underlying3
    replace g1 := bounds_i64 g1
    simp only [List.cons.injEq, and_true] at e1
    subst e1
    obtain ⟨x2, e2, g2⟩ := f2.int Tryd.underlying3
    replace g2 := bounds_i64 g2
    simp only [List.cons.injEq, and_true] at e2
    subst e2
    obtain ⟨x3, e3, g3⟩ := f3.int Tryd.underlying3
    replace g3 := bounds_i64 g3
    simp only [List.cons.injEq, and_true] at e3
    subst e3
    obtain ⟨x4, e4, g4⟩ := f4.int Tryd.underlying3
    replace g4 := bounds_i64 g4
    simp only [List.cons.injEq, and_true] at e4
    subst e4
    obtain ⟨x5, e5, g5⟩ := f5.int Tryd.underlying3
    replace g5 := bounds_i64 g5
    simp only [List.cons.injEq, and_true] at e5
    subst e5
    obtain ⟨x6, e6, g6⟩ := f6.int Tryd.underlying3
    replace g6 := bounds_i64 g6
    simp only [List.cons.injEq, and_true] at e6
    subst e6
    obtain ⟨x7, e7, g7⟩ := f7.int Tryd.underlying3
    replace g7 := bounds_i64 g7
    simp only [List.cons.injEq, and_true] at e7
    subst e7
    obtain ⟨x8, e8, g8⟩ := f8.int Tryd.underlying3
    replace g8 := bounds_i64 g8
    simp only [List.cons.injEq, and_true] at e8
    subst e8
    obtain ⟨x9, e9, g9⟩ := f9.int Tryd.underlying3
    replace g9 := bounds_i64 g9
    simp only [List.cons.injEq, and_true] at e9
    subst e9
    obtain ⟨x10, e10, g10⟩ := f10.int Tryd.underlying3
    replace g10 := bounds_i64 g10
    simp only [List.cons.injEq, and_true] at e10
    subst e10
    obtain ⟨x11, e11⟩ := f11.bool Tryd.underlying4
    simp only [List.cons.injEq, and_true] at e11
    subst e11
    obtain ⟨x12, rfl⟩ : ∃ x : Slc, v12 = x.v := by
      rcases f12.slice Tryd.underlying24 with h1 | ⟨a, n, c, h1, _⟩
      · simp at h1; exact ⟨⟨none, 0, 0⟩, h1⟩
      · simp at h1; exact ⟨⟨_, _, _⟩, h1⟩
    exact ⟨⟨x0, x1, x2, x3, x4, x5, x6, x7, x8, x9, x10, x11, x12⟩, rfl, by unfold InI; dsimp only; omega, by unfold InI; dsimp only; omega, by unfold InI; dsimp only; omega, by dsimp only; omega, by dsimp only; omega⟩
theorem open_hfce {H : Type} {enc : TypeId × Value → H} {w : World} {cs : List Value} (h : Rd enc Tryd.prog w 49 cs) : ∃ x : Force, cs = x.cells ∧ GoodF x := by
  obtain ⟨hl, hf⟩ := h.struct Tryd.underlying49
  rw [show Tryd.prog.cellsOf 49 = 4 by kernel_rfl] at hl
  match cs, hl with
  | [v0, v1, v2, v3], _ =>
    have f0 : Rd enc Tryd.prog w 3 ((([v0, v1, v2, v3] : List Value).drop 0).take (Tryd.prog.cellsOf 3)) := hf 0 _ rfl
    rw [show Tryd.prog.cellsOf 3 = 1 by kernel_rfl] at f0
    replace f0 : Rd enc Tryd.prog w 3 [v0] := f0
    have f1 : Rd enc Tryd.prog w 3 ((([v0, v1, v2, v3] : List Value).drop 1).take (Tryd.prog.cellsOf 3)) := hf 1 _ rfl
    rw [show Tryd.prog.cellsOf 3 = 1 by kernel_rfl] at f1
    replace f1 : Rd enc Tryd.prog w 3 [v1] := f1
    have f2 : Rd enc Tryd.prog w 3 ((([v0, v1, v2, v3] : List Value).drop 2).take (Tryd.prog.cellsOf 3)) := hf 2 _ rfl
    rw [show Tryd.prog.cellsOf 3 = 1 by kernel_rfl] at f2
    replace f2 : Rd enc Tryd.prog w 3 [v2] := f2
    have f3 : Rd enc Tryd.prog w 3 ((([v0, v1, v2, v3] : List Value).drop 3).take (Tryd.prog.cellsOf 3)) := hf 3 _ rfl
    rw [show Tryd.prog.cellsOf 3 = 1 by kernel_rfl] at f3
    replace f3 : Rd enc Tryd.prog w 3 [v3] := f3
    obtain ⟨x0, e0, g0⟩ := f0.int Tryd.underlying3
    replace g0 := bounds_i64 g0
    simp only [List.cons.injEq, and_true] at e0
    subst e0
    obtain ⟨x1, e1, g1⟩ := f1.int Tryd.underlying3
    replace g1 := bounds_i64 g1
    simp only [List.cons.injEq, and_true] at e1
    subst e1
    obtain ⟨x2, e2, g2⟩ := f2.int Tryd.underlying3
    replace g2 := bounds_i64 g2
    simp only [List.cons.injEq, and_true] at e2
    subst e2
    obtain ⟨x3, e3, g3⟩ := f3.int Tryd.underlying3
    replace g3 := bounds_i64 g3
    simp only [List.cons.injEq, and_true] at e3
    subst e3
    exact ⟨⟨x0, x1, x2, x3⟩, rfl, by refine ⟨?_, ?_, ?_, ?_⟩ <;> (unfold InI; dsimp only; omega)⟩
theorem open_hcal {H : Type} {enc : TypeId × Value → H} {w : World} {cs : List Value} (h : Rd enc Tryd.prog w 41 cs) : ∃ x : HCall, cs = x.cells ∧ GoodL x := by
  obtain ⟨hl, hf⟩ := h.struct Tryd.underlying41
  rw [show Tryd.prog.cellsOf 41 = 20 by kernel_rfl] at hl
  match cs, hl with
  | [v0, v1, v2, v3, v4, v5, v6, v7, v8, v9, v10, v11, v12, v13, v14, v15, v16, v17, v18, v19], _ =>
    have f0 : Rd enc Tryd.prog w 26 ((([v0, v1, v2, v3, v4, v5, v6, v7, v8, v9, v10, v11, v12, v13, v14, v15, v16, v17, v18, v19] : List Value).drop 0).take (Tryd.prog.cellsOf 26)) := hf 0 _ rfl
    rw [show Tryd.prog.cellsOf 26 = 13 by kernel_rfl] at f0
    replace f0 : Rd enc Tryd.prog w 26 [v0, v1, v2, v3, v4, v5, v6, v7, v8, v9, v10, v11, v12] := f0
    have f1 : Rd enc Tryd.prog w 3 ((([v0, v1, v2, v3, v4, v5, v6, v7, v8, v9, v10, v11, v12, v13, v14, v15, v16, v17, v18, v19] : List Value).drop 13).take (Tryd.prog.cellsOf 3)) := hf 1 _ rfl
    rw [show Tryd.prog.cellsOf 3 = 1 by kernel_rfl] at f1
    replace f1 : Rd enc Tryd.prog w 3 [v13] := f1
    have f2 : Rd enc Tryd.prog w 3 ((([v0, v1, v2, v3, v4, v5, v6, v7, v8, v9, v10, v11, v12, v13, v14, v15, v16, v17, v18, v19] : List Value).drop 14).take (Tryd.prog.cellsOf 3)) := hf 2 _ rfl
    rw [show Tryd.prog.cellsOf 3 = 1 by kernel_rfl] at f2
    replace f2 : Rd enc Tryd.prog w 3 [v14] := f2
    have f3 : Rd enc Tryd.prog w 31 ((([v0, v1, v2, v3, v4, v5, v6, v7, v8, v9, v10, v11, v12, v13, v14, v15, v16, v17, v18, v19] : List Value).drop 15).take (Tryd.prog.cellsOf 31)) := hf 3 _ rfl
    rw [show Tryd.prog.cellsOf 31 = 5 by kernel_rfl] at f3
    replace f3 : Rd enc Tryd.prog w 31 [v15, v16, v17, v18, v19] := f3
    obtain ⟨x0, e0, g0⟩ := open_hcmd f0
    obtain ⟨x1, e1, g1⟩ := f1.int Tryd.underlying3
    replace g1 := bounds_i64 g1
    simp only [List.cons.injEq, and_true] at e1
    subst e1
    obtain ⟨x2, e2, g2⟩ := f2.int Tryd.underlying3
    replace g2 := bounds_i64 g2
    simp only [List.cons.injEq, and_true] at e2
    subst e2
    obtain ⟨x3, e3, g3⟩ := open_hans f3
    simp only [List.cons.injEq, and_true] at e0 e3
    obtain ⟨rfl, rfl, rfl, rfl, rfl, rfl, rfl, rfl, rfl, rfl, rfl, rfl, rfl⟩ := e0
    obtain ⟨rfl, rfl, rfl, rfl, rfl⟩ := e3
    exact ⟨⟨x0, x1, x2, x3⟩, rfl, g0, by unfold InI; dsimp only; omega, by unfold InI; dsimp only; omega, g3⟩
theorem open_hfces {H : Type} {enc : TypeId × Value → H} {w : World} {a : Option Addr} {len cap : Nat} (h : Rd enc Tryd.prog w 22 [.slice a len cap]) :
    ∃ ts : List Force, ts.length = len ∧ len ≤ cap ∧ cap ≤ maxLen ∧ (a = none → cap = 0) ∧ (∀ x ∈ ts, GoodF x) ∧ LRow layFce w a ts := by
  obtain ⟨xs, h1, h2, h3, _, h5, h6, hr⟩ := Rd.rows (α := Force) (cells := Force.cells) (size := 4) (good := GoodF) (fun _ => rfl) (by decide) Tryd.underlying22 (by kernel_rfl) (fun cs hcs => open_hfce hcs) h
  exact ⟨xs, h1, h2, h3, h5, h6, hr⟩
theorem open_hcals {H : Type} {enc : TypeId × Value → H} {w : World} {a : Option Addr} {len cap : Nat} (h : Rd enc Tryd.prog w 27 [.slice a len cap]) :
    ∃ ts : List HCall, ts.length = len ∧ len ≤ cap ∧ cap ≤ maxLen ∧ (a = none → cap = 0) ∧ (∀ x ∈ ts, GoodL x) ∧ LRow layCal w a ts := by
  obtain ⟨xs, h1, h2, h3, _, h5, h6, hr⟩ := Rd.rows (α := HCall) (cells := HCall.cells) (size := 20) (good := GoodL) (fun _ => rfl) (by decide) Tryd.underlying27 (by kernel_rfl) (fun cs hcs => open_hcal hcs) h
  exact ⟨xs, h1, h2, h3, h5, h6, hr⟩
theorem open_hcmds {H : Type} {enc : TypeId × Value → H} {w : World} {a : Option Addr} {len cap : Nat} (h : Rd enc Tryd.prog w 39 [.slice a len cap]) :
    ∃ ts : List HCmd, ts.length = len ∧ len ≤ cap ∧ cap ≤ maxLen ∧ (a = none → cap = 0) ∧ (∀ x ∈ ts, GoodC x) ∧ LRow layHcm w a ts := by
  obtain ⟨xs, h1, h2, h3, _, h5, h6, hr⟩ := Rd.rows (α := HCmd) (cells := HCmd.cells) (size := 13) (good := GoodC) (fun _ => rfl) (by decide) Tryd.underlying39 (by kernel_rfl) (fun cs hcs => open_hcmd hcs) h
  exact ⟨xs, h1, h2, h3, h5, h6, hr⟩
end Go.Proofs.YtkboojpkkhiceaaDoor

/- In plain: which calls wait, when all that was answered is done. -/
namespace Go.Proofs.YtkboojpkkhiceaaDoor

def toAt (l : List HCall) (j : Nat) : Int := ((l[j]?).map HCall.to).getD 0
def frAt (l : List HCall) (j : Nat) : Int := ((l[j]?).map HCall.frm).getD 0
def wholeB (l : List HCall) (d j : Nat) : Bool := toAt l j == 0 || d.testBit j
def waitsB (l : List HCall) (d k j : Nat) : Bool := j != k && !d.testBit j && toAt l j != 0 && decide (toAt l j < frAt l k)
def wholeL (l : List HCall) (d : Nat) : Bool := (List.range l.length).all (wholeB l d)
def waitsL (l : List HCall) (d k : Nat) : Bool := (List.range l.length).any (waitsB l d k)
theorem toAt_eq {l : List HCall} {j : Nat} (h : j < l.length) : toAt l j = l[j].to := by unfold toAt; rw [List.getElem?_eq_getElem h]; rfl
theorem frAt_eq {l : List HCall} {j : Nat} (h : j < l.length) : frAt l j = l[j].frm := by unfold frAt; rw [List.getElem?_eq_getElem h]; rfl
theorem range_all {p : Nat → Bool} {n k : Nat} (hk : k < n) (h : (List.range k).all p = true) (h2 : p k = true) : (List.range (k + 1)).all p = true := by
  rw [List.range_succ, List.all_append, h]; simp [h2]
theorem range_all_bad {p : Nat → Bool} {n k : Nat} (hk : k < n) (h2 : p k = false) : (List.range n).all p = false := by
  rw [List.all_eq_false]; exact ⟨k, List.mem_range.2 hk, by simp [h2]⟩
theorem range_any {p : Nat → Bool} {n k : Nat} (hk : k < n) (h : (List.range k).any p = false) (h2 : p k = false) : (List.range (k + 1)).any p = false := by
  rw [List.range_succ, List.any_append, h]; simp [h2]
theorem range_any_hit {p : Nat → Bool} {n k : Nat} (hk : k < n) (h2 : p k = true) : (List.range n).any p = true := by
  rw [List.any_eq_true]; exact ⟨k, List.mem_range.2 hk, h2⟩
theorem bit_of (d j : Nat) : ((d >>> j) &&& 1 = 0) = (d.testBit j = false) := by
  unfold Nat.testBit; rw [Nat.and_comm]; simp
end Go.Proofs.YtkboojpkkhiceaaDoor

/- In plain: the search for an order. -/
namespace Go.Proofs.YtkboojpkkhiceaaDoor

def tryK (l : List HCall) (f : Nat → List Force → Option (List Nat)) (d : Nat) (t : List Force) (k : Nat) : Option (List Nat) :=
  if d.testBit k || waitsL l d k then none else
  match l[k]? with
  | none => none
  | some x => if x.to ≠ 0 ∧ (doF t x.cmd).2 ≠ x.ans then none else (f (d ||| 2 ^ k) (doF t x.cmd).1).map (k :: ·)
def srch (l : List HCall) : Nat → Nat → List Force → Option (List Nat)
  | 0, _, _ => none
  | f + 1, d, t => if wholeL l d then some [] else (List.range l.length).findSome? (tryK l (srch l f) d t)
/-- How many calls are not done. -/
def undone (l : List HCall) (d : Nat) : Nat := (List.range l.length).countP (fun j => !d.testBit j)
theorem undone_le (l : List HCall) (d : Nat) : undone l d ≤ l.length := by
  unfold undone; have := List.countP_le_length (p := fun j => !d.testBit j) (l := List.range l.length); simpa using this
theorem testBit_or (d k j : Nat) : (d ||| 2 ^ k).testBit j = (d.testBit j || decide (k = j)) := by
  rw [Nat.testBit_or, Nat.testBit_two_pow]
theorem countP_lt {p q : Nat → Bool} : ∀ (r : List Nat), (∀ j ∈ r, p j = true → q j = true) → (∃ k ∈ r, p k = false ∧ q k = true) → r.countP p < r.countP q
  | [], _, h => by obtain ⟨k, hk, _⟩ := h; cases hk
  | j :: r, h, h2 => by
    have hle : r.countP p ≤ r.countP q := List.countP_mono_left (fun x hx => h x (List.mem_cons_of_mem _ hx))
    by_cases hr : ∃ k ∈ r, p k = false ∧ q k = true
    · have h3 := countP_lt r (fun x hx => h x (List.mem_cons_of_mem _ hx)) hr
      rw [List.countP_cons, List.countP_cons]
      have := h j (List.mem_cons_self ..)
      by_cases hp : p j = true
      · rw [if_pos hp, if_pos (this hp)]; omega
      · rw [if_neg hp]; split <;> omega
    · obtain ⟨k, hk, h4, h5⟩ := h2
      rcases List.mem_cons.1 hk with rfl | hk
      · rw [List.countP_cons, List.countP_cons, if_neg (by rw [h4]; simp), if_pos h5]; omega
      · exact absurd ⟨k, hk, h4, h5⟩ hr
theorem undone_lt {l : List HCall} {d k : Nat} (hk : k < l.length) (h : d.testBit k = false) : undone l (d ||| 2 ^ k) < undone l d := by
  unfold undone
  refine countP_lt _ (fun j _ hj => ?_) ⟨k, List.mem_range.2 hk, ?_, by rw [h]; rfl⟩
  · rw [testBit_or] at hj
    simp at hj ⊢; exact hj.1
  · rw [testBit_or]; simp
theorem findSome_congr {α : Type} {p q : Nat → Option α} : ∀ (r : List Nat), (∀ k ∈ r, p k = q k) → r.findSome? p = r.findSome? q
  | [], _ => rfl
  | k :: r, h => by
    rw [List.findSome?_cons, List.findSome?_cons, h k (List.mem_cons_self ..), findSome_congr r (fun j hj => h j (List.mem_cons_of_mem _ hj))]
theorem srch_stable (l : List HCall) : ∀ (f f' d : Nat) (t : List Force), undone l d < f → undone l d < f' → srch l f d t = srch l f' d t
  | 0, _, _, _, h, _ => absurd h (Nat.not_lt_zero _)
  | _ + 1, 0, _, _, _, h => absurd h (Nat.not_lt_zero _)
  | f + 1, f' + 1, d, t, h, h' => by
    show (if wholeL l d then some [] else (List.range l.length).findSome? (tryK l (srch l f) d t)) = (if wholeL l d then some [] else (List.range l.length).findSome? (tryK l (srch l f') d t))
    split
    · rfl
    · refine findSome_congr _ (fun k hk => ?_)
      unfold tryK
      cases hb : d.testBit k with
      | true => rfl
      | false =>
        have hlt := undone_lt (List.mem_range.1 hk) hb
        cases waitsL l d k with
        | true => rfl
        | false =>
          simp only [Bool.or_false, Bool.false_eq_true, if_false]
          split
          · rfl
          · split
            · rfl
            · rw [srch_stable l f f' _ _ (by omega) (by omega)]
theorem srch_step (l : List HCall) (f d : Nat) (t : List Force) (h : undone l d ≤ f) : srch l (f + 1) d t = if wholeL l d then some [] else (List.range l.length).findSome? (tryK l (srch l (f + 1)) d t) := by
  show (if wholeL l d then some [] else (List.range l.length).findSome? (tryK l (srch l f) d t)) = _
  split
  · rfl
  · refine findSome_congr _ (fun k hk => ?_)
    unfold tryK
    cases hb : d.testBit k with
    | true => rfl
    | false =>
      have hlt := undone_lt (List.mem_range.1 hk) hb
      cases waitsL l d k with
      | true => rfl
      | false =>
        simp only [Bool.or_false, Bool.false_eq_true, if_false]
        split
        · rfl
        · split
          · rfl
          · rw [srch_stable l f (f + 1) _ _ (by omega) (by omega)]
def S (l : List HCall) (d : Nat) (t : List Force) : Option (List Nat) := srch l (12 + 1) d t
theorem S_eq {l : List HCall} (hl : l.length ≤ 12) (d : Nat) (t : List Force) : S l d t = if wholeL l d then some [] else (List.range l.length).findSome? (tryK l (S l) d t) :=
  srch_step l 12 d t (Nat.le_trans (undone_le l d) hl)
theorem S_whole {l : List HCall} (hl : l.length ≤ 12) {d : Nat} {t : List Force} (h : wholeL l d = true) : S l d t = some [] := by rw [S_eq hl, if_pos h]
/-- What the first k calls give. -/
def T (l : List HCall) (d : Nat) (t : List Force) (k : Nat) : Option (List Nat) := (List.range k).findSome? (tryK l (S l) d t)
theorem T_zero (l : List HCall) (d : Nat) (t : List Force) : T l d t 0 = none := rfl
theorem T_end {l : List HCall} (hl : l.length ≤ 12) {d : Nat} {t : List Force} (h : wholeL l d = false) : S l d t = T l d t l.length := by rw [S_eq hl, if_neg (by rw [h]; simp)]; rfl
theorem T_next {l : List HCall} {d : Nat} {t : List Force} {k : Nat} (h : T l d t k = none) (h2 : tryK l (S l) d t k = none) : T l d t (k + 1) = none := by
  unfold T at *; rw [List.range_succ, List.findSome?_append, h]; simp [h2]
theorem T_hit {l : List HCall} (hl : l.length ≤ 12) {d : Nat} {t : List Force} {k : Nat} {r : List Nat} (hw : wholeL l d = false) (hk : k < l.length) (h : T l d t k = none) (h2 : tryK l (S l) d t k = some r) : S l d t = some r := by
  rw [T_end hl hw]
  unfold T at *
  obtain ⟨m, hm⟩ : ∃ m, l.length = k + (1 + m) := ⟨l.length - k - 1, by omega⟩
  rw [hm, List.range_add, List.findSome?_append, h, Nat.add_comm 1 m, List.range_succ_eq_map]
  simp [h2]
theorem try_bit {l : List HCall} {f : Nat → List Force → Option (List Nat)} {d : Nat} {t : List Force} {k : Nat} (h : d.testBit k = true) : tryK l f d t k = none := by unfold tryK; rw [h]; rfl
theorem try_wait {l : List HCall} {f : Nat → List Force → Option (List Nat)} {d : Nat} {t : List Force} {k : Nat} (h : waitsL l d k = true) : tryK l f d t k = none := by unfold tryK; rw [h]; simp
theorem try_bad {l : List HCall} {f : Nat → List Force → Option (List Nat)} {d : Nat} {t : List Force} {k : Nat} (hk : k < l.length) (h1 : l[k].to ≠ 0) (h2 : (doF t l[k].cmd).2 ≠ l[k].ans) : tryK l f d t k = none := by
  unfold tryK; split
  · rfl
  · rw [List.getElem?_eq_getElem hk]; simp only; rw [if_pos ⟨h1, h2⟩]
theorem try_go {l : List HCall} {f : Nat → List Force → Option (List Nat)} {d : Nat} {t : List Force} {k : Nat} (hk : k < l.length) (h0 : d.testBit k = false) (hw : waitsL l d k = false) (h1 : l[k].to = 0 ∨ (doF t l[k].cmd).2 = l[k].ans) :
    tryK l f d t k = (f (d ||| 2 ^ k) (doF t l[k].cmd).1).map (k :: ·) := by
  unfold tryK; rw [h0, hw, List.getElem?_eq_getElem hk]
  simp only [Bool.or_false, Bool.false_eq_true, if_false]
  rw [if_neg (by rintro ⟨a, b⟩; rcases h1 with h | h; exact a h; exact b h)]
/-- How many rooms a search may fill. -/
def roomN : Nat → Nat
  | 0 => 1
  | f + 1 => 1 + 12 * roomN f
theorem roomN_le : ∀ f, roomN f ≤ 13 ^ f
  | 0 => Nat.le_refl _
  | f + 1 => by
    have := roomN_le f
    have h2 : 1 ≤ 13 ^ f := Nat.pow_pos (by decide)
    rw [Nat.pow_succ]; show 1 + 12 * roomN f ≤ _; omega
end Go.Proofs.YtkboojpkkhiceaaDoor

/- Bits of sixteen: whether one is set, one set. -/
namespace Go.Proofs.YtkboojpkkhiceaaDoor
open Go.ChangeShapes Go.WideShapes Go.ChangeAt Go.RowKit
set_option maxRecDepth 100000

theorem wraps_u16 (n : Int) (h₀ : 0 ≤ n) (h₁ : n < 2 ^ 16) : IntKind.u16.wrap n = n := by
  have : IntKind.u16.wrap n = n % 65536 := by simp [IntKind.wrap, IntKind.bits, IntKind.signed]
  rw [this]; omega
theorem div_cast (d k : Nat) : ((d : Int) / 2 ^ k) = ((d / 2 ^ k : Nat) : Int) := by
  rw [Int.natCast_ediv, Int.natCast_pow]; rfl
theorem and1 (d k : Nat) (hd : d < 65536) : bits .and .u16 ((d : Int) / 2 ^ k) 1 = if d.testBit k then 1 else 0 := by
  have hle : d / 2 ^ k ≤ d := Nat.div_le_self _ _
  have h := bits_mask .u16 16 (by decide) wraps_u16 1 (by decide) ((d : Int) / 2 ^ k) (by rw [div_cast]; exact Int.natCast_nonneg _) (by rw [div_cast]; have : d / 2 ^ k < 65536 := Nat.lt_of_le_of_lt hle hd; omega)
  have h2 : bits .and .u16 ((d : Int) / 2 ^ k) 1 = ((d : Int) / 2 ^ k) % 2 := h
  rw [h2, div_cast, Nat.testBit_eq_decide_div_mod_eq]
  by_cases h3 : d / 2 ^ k % 2 = 1
  · rw [if_pos (by simpa using h3)]; omega
  · rw [if_neg (by simpa using h3)]; omega
theorem and1_0 (d k : Nat) (hd : d < 65536) : (bits .and .u16 ((d : Int) / 2 ^ k) 1 == 0) = !d.testBit k := by
  rw [and1 d k hd]; cases d.testBit k <;> rfl
theorem and1_1 (d k : Nat) (hd : d < 65536) : (bits .and .u16 ((d : Int) / 2 ^ k) 1 == 1) = d.testBit k := by
  rw [and1 d k hd]; cases d.testBit k <;> rfl
theorem or_bit (d k : Nat) (hd : d < 65536) (hk : k < 16) : bits .or .u16 (d : Int) ((2 ^ k : Nat) : Int) = ((d ||| 2 ^ k : Nat) : Int) := by
  have h2 : 2 ^ k < 2 ^ 16 := Nat.pow_lt_pow_right (by decide) hk
  have h := bits_nat .u16 16 (by decide) wraps_u16 d (2 ^ k) (by omega) h2
  exact h.2
theorem or_lt (d k : Nat) (hd : d < 65536) (hk : k < 16) : d ||| 2 ^ k < 65536 := Nat.or_lt_two_pow (n := 16) hd (Nat.pow_lt_pow_right (by decide) hk)
end Go.Proofs.YtkboojpkkhiceaaDoor

/- Must a call wait; is all that was answered done: the program's side. (printed by gen_hiswh.py) -/
namespace Go.Proofs.YtkboojpkkhiceaaDoor
open Go.ChangeShapes Go.WideShapes Go.ChangeAt Go.RowKit
set_option maxRecDepth 100000

theorem eqz_ne {t : Int} (b : Bool) (h : (t != 0) = b) : (t == 0) = !b := by rw [← h]; simp [bne]
set_option maxHeartbeats 2000000 in
theorem whole_any (l : List HCall) (d : Nat) (a : Option Addr) (n c : Nat) (w : World) (hn : l.length = n) (hl : n ≤ 12) (hd : d < 65536) (hr : LRow layCal w a l) :
    Calls Tryd.prog 35 #[.slice a n c, .int .u16 d] w fun e w' => e = .returned (.bool (wholeL l d)) ∧ Below w.heap.size w w' := by
  subst hn
  have HB := Lib.hid (fun k (h : k < l.length) (h2 : wholeB l d k = false) => range_all_bad (p := wholeB l d) h h2)
  have HN := Lib.hid (fun k (h : k < l.length) => range_all (p := wholeB l d) h)
  have HT : Hid ((List.range l.length).all (wholeB l d) = true → wholeL l d = true) := fun h => h
  have HB' : Hid (∀ k, k < l.length → wholeB l d k = false → wholeL l d = false) := fun k h h2 => range_all_bad h h2
  have H0 : Hid ((List.range 0).all (wholeB l d) = true) := rfl
  generalize wholeL l d = res at HT HB' ⊢
  clear HB
  go_enter Tryd.func35, Tryd.ntmps35
  go_wp2
  go_loopw [8] (fun i wr => ∃ k : Nat, k ≤ l.length ∧ i = .int .i64 k ∧ Hid ((List.range k).all (wholeB l d) = true) ∧ Below w.heap.size w wr) (fun i _ => l.length - (intOf i).toNat)
  case atStart => exact ⟨0, by omega, rfl, H0.out, Below.refl _ _⟩
  case round =>
    obtain ⟨k, hk, rfl, hok, hb⟩ := hrel
    by_cases hlt : k < l.length
    · obtain ⟨b, o, rfl, hcs⟩ := hr.range hlt
      have hrange := hcs _ hb
      have e2 : wr.cell? ⟨b, o + k * 20 + 14, none⟩ = some (.int .i64 l[k].to) := hrange 14 _ rfl
      have HW : Hid (wholeB l d k = (l[k].to == 0 || d.testBit k)) := by show _ = _; unfold wholeB; rw [toAt_eq hlt]
      have HB1 := Lib.hid (HB'.out k hlt)
      have HN1 := Lib.hid (HN.out k hlt hok.out)
      have hbit := and1_0 d k hd
      generalize l[k].to = t at e2 HW
      generalize d.testBit k = bt at hbit HW
      clear hrange hcs
      rcases h1 : (t != 0) with _ | _
      · have HO : Hid (wholeB l d k = true) := by show _ = _; rw [HW.out, eqz_ne _ h1]; rfl
        go_wp2
        go_roundw
        case rel => exact ⟨k + 1, by omega, by go_num, HN1.out HO.out, hb⟩
        case measure => simp [intOf]; omega
      · cases bt with
        | false =>
          have HO : Hid (wholeB l d k = false) := by show _ = _; rw [HW.out, eqz_ne _ h1]; rfl
          go_wp2
          go_returns
          exact ⟨ret_bool (HB1.out HO.out).symm, hb⟩
        | true =>
          have HO : Hid (wholeB l d k = true) := by show _ = _; rw [HW.out]; simp
          go_wp2
          go_roundw
          case rel => exact ⟨k + 1, by omega, by go_num, HN1.out HO.out, hb⟩
          case measure => simp [intOf]; omega
    · obtain rfl : k = l.length := by omega
      have HO := Lib.hid (HT.out hok.out)
      go_wp2
      go_returns
      exact ⟨ret_bool HO.out.symm, hb⟩
set_option maxHeartbeats 2000000 in
theorem waits_any (l : List HCall) (d p : Nat) (a : Option Addr) (n c : Nat) (w : World) (hn : l.length = n) (hl : n ≤ 12) (hd : d < 65536) (hp : p < n) (hr : LRow layCal w a l) :
    Calls Tryd.prog 36 #[.slice a n c, .int .u16 d, .int .i64 p] w fun e w' => e = .returned (.bool (waitsL l d p)) ∧ Below w.heap.size w w' := by
  subst hn
  have HN := Lib.hid (fun k (h : k < l.length) => range_any (p := waitsB l d p) h)
  have HT : Hid ((List.range l.length).any (waitsB l d p) = false → waitsL l d p = false) := fun h => h
  have HB' : Hid (∀ k, k < l.length → waitsB l d p k = true → waitsL l d p = true) := fun k h h2 => range_any_hit h h2
  have H0 : Hid ((List.range 0).any (waitsB l d p) = false) := rfl
  generalize waitsL l d p = res at HT HB' ⊢
  obtain ⟨b, o, rfl, hcs⟩ := hr.range hp
  have HP := Lib.hid (fun w' hb => (show World.cell? w' ⟨b, o + p * 20 + 13, none⟩ = some (.int .i64 l[p].frm) from hcs w' hb 13 _ rfl))
  have HF : Hid (frAt l p = l[p].frm) := frAt_eq hp
  generalize l[p].frm = f at HP HF
  clear hcs
  go_enter Tryd.func36, Tryd.ntmps36
  go_wp2
  go_loopw [10] (fun i wr => ∃ k : Nat, k ≤ l.length ∧ i = .int .i64 k ∧ Hid ((List.range k).any (waitsB l d p) = false) ∧ Below w.heap.size w wr) (fun i _ => l.length - (intOf i).toNat)
  case atStart => exact ⟨0, by omega, rfl, H0.out, Below.refl _ _⟩
  case round =>
    obtain ⟨k, hk, rfl, hok, hb⟩ := hrel
    by_cases hlt : k < l.length
    · obtain ⟨b2, o2, e2, hcs⟩ := hr.range hlt
      simp only [Option.some.injEq, Addr.mk.injEq, and_true] at e2
      obtain ⟨rfl, rfl⟩ := e2
      have e2 : wr.cell? ⟨b, o + k * 20 + 14, none⟩ = some (.int .i64 l[k].to) := hcs _ hb 14 _ rfl
      have e3 := HP.out wr hb
      have HW : Hid (waitsB l d p k = (k != p && !d.testBit k && l[k].to != 0 && decide (l[k].to < f))) := by show _ = _; unfold waitsB; rw [toAt_eq hlt, HF.out]
      have HB1 := Lib.hid (HB'.out k hlt)
      have HN1 := Lib.hid (HN.out k hlt hok.out)
      have hbit := and1_0 d k hd
      generalize l[k].to = t at e2 HW
      generalize d.testBit k = bt at hbit HW
      clear hcs
      have hi0 : decide ((0 : Int) ≤ (k : Int)) = true := decide_eq_true (by omega)
      have hi1 : decide ((k : Int) < (l.length : Int)) = true := decide_eq_true (by omega)
      have hj0 : decide ((0 : Int) ≤ (p : Int)) = true := decide_eq_true (by omega)
      have hj1 : decide ((p : Int) < (l.length : Int)) = true := decide_eq_true (by omega)
      have hkp : ((k : Int) != (p : Int)) = (k != p) := by
        by_cases h : k = p
        · subst h; simp
        · rw [bne_iff_ne.2 h, bne_iff_ne.2 (by omega)]
      rcases h0 : (k != p) with _ | _
      · have HO : Hid (waitsB l d p k = false) := by show _ = _; rw [HW.out, h0]; rfl
        rw [h0] at hkp
        clear h0
        go_wp2_with fail
        refine wp_region_quiet_lit (by kernel_rfl) (by kernel_rfl) ?_
        repeat (go_big_quiet_step (fail))
        refine wpQuiet_nil ?_
        intro _ hw'
        obtain ⟨nq, hw2⟩ := hw'
        subst hw2
        go_wp2_with fail
        go_roundw
        case rel => exact ⟨k + 1, by omega, by go_num, HN1.out HO.out, below_drewN hb _⟩
        case measure => simp [intOf]; omega
      · rw [h0] at hkp
        cases bt with
        | true =>
          have HO : Hid (waitsB l d p k = false) := by show _ = _; rw [HW.out]; simp
          clear h0
          go_wp2_with fail
          refine wp_region_quiet_lit (by kernel_rfl) (by kernel_rfl) ?_
          repeat (go_big_quiet_step (fail))
          refine wpQuiet_nil ?_
          intro _ hw'
          obtain ⟨nq, hw2⟩ := hw'
          subst hw2
          go_wp2_with fail
          go_roundw
          case rel => exact ⟨k + 1, by omega, by go_num, HN1.out HO.out, below_drewN hb _⟩
          case measure => simp [intOf]; omega
        | false =>
          rcases h1 : (t != 0) with _ | _
          · have HO : Hid (waitsB l d p k = false) := by show _ = _; rw [HW.out, h1]; simp
            clear h0
            go_wp2_with fail
            refine wp_region_quiet_lit (by kernel_rfl) (by kernel_rfl) ?_
            repeat (go_big_quiet_step (fail))
            refine wpQuiet_nil ?_
            intro _ hw'
            obtain ⟨nq, hw2⟩ := hw'
            subst hw2
            go_wp2_with fail
            go_roundw
            case rel => exact ⟨k + 1, by omega, by go_num, HN1.out HO.out, below_drewN hb _⟩
            case measure => simp [intOf]; omega
          · by_cases h2 : t < f
            · have HO : Hid (waitsB l d p k = true) := by show _ = _; rw [HW.out, h0, h1, decide_eq_true h2]; rfl
              have d2 : decide (t < f) = true := decide_eq_true h2
              clear h0 h2
              go_wp2_with fail
              refine wp_region_quiet_lit (by kernel_rfl) (by kernel_rfl) ?_
              repeat (go_big_quiet_step (fail))
              refine wpQuiet_nil ?_
              intro _ hw'
              obtain ⟨nq, hw2⟩ := hw'
              subst hw2
              go_wp2_with fail
              go_returns
              exact ⟨ret_bool (HB1.out HO.out).symm, below_drewN hb _⟩
            · have HO : Hid (waitsB l d p k = false) := by show _ = _; rw [HW.out, decide_eq_false h2]; simp
              have d2 : decide (t < f) = false := decide_eq_false h2
              clear h0 h2
              go_wp2_with fail
              refine wp_region_quiet_lit (by kernel_rfl) (by kernel_rfl) ?_
              repeat (go_big_quiet_step (fail))
              refine wpQuiet_nil ?_
              intro _ hw'
              obtain ⟨nq, hw2⟩ := hw'
              subst hw2
              go_wp2_with fail
              go_roundw
              case rel => exact ⟨k + 1, by omega, by go_num, HN1.out HO.out, below_drewN hb _⟩
              case measure => simp [intOf]; omega
    · obtain rfl : k = l.length := by omega
      have HO := Lib.hid (HT.out hok.out)
      go_wp2
      go_returns
      exact ⟨ret_bool HO.out.symm, hb⟩
end Go.Proofs.YtkboojpkkhiceaaDoor

/- Where an append's row lies: in a new block, or where it lay. (printed by gen_near.py) -/
namespace Go.Proofs.YtkboojpkkhiceaaDoor
open Go.ChangeShapes Go.WideShapes Go.ChangeAt Go.RowKit
set_option maxRecDepth 100000

/-- Where an append's row lies: in a new block, or where it lay. -/
theorem canNear {P : Program} {w : World} {t e : TypeId} {size bytes : Nat} (el : Elem P t e size bytes) (ty : TypeId) (D : Nat) (a : Option Addr) (n c : Nat) (xs : List Value) (hcan : Can w D e size a n c xs)
    (ad : Option Addr) (m k : Nat) (news : List Value) (hl : news.length = m * size) (hr : Row w ad news) (h1 : ∀ u ∈ news, u.oneCell' = true) (hbytes : (n + m) * bytes ≤ 140737488355328) (hm : 0 < m)
    {a' : Option Addr} {c' : Nat} {w' : World} (hrun : (Builtin.append_ #[t, t] ty #[.slice a n c, .slice ad m k]).run P w = .ok (.slice a' (n + m) c') w') : Near w.heap.size a a' := by
  obtain ⟨i, z, hi, hz, hsize, hby, hzs⟩ := el.info
  have hp := el.pos
  have hb := el.bpos
  subst hsize
  subst hby
  have h63 : n + m ≤ 9223372036854775807 := by
    have : n + m ≤ (n + m) * i.bytes := Nat.le_mul_of_pos_right _ hb
    omega
  obtain ⟨ad', rfl⟩ : ∃ x, ad = some x := by
    cases ad with
    | some x => exact ⟨x, rfl⟩
    | none =>
      rcases hr with rfl | ⟨_, _, h, _⟩
      · rw [List.length_nil] at hl
        have := Nat.mul_pos hm hp
        omega
      · cases h
  have hnews := hr.holds
  cases a with
  | none =>
    have hc0 : c = 0 := hcan.none hp rfl
    have hn0 : n = 0 := by have := hcan.le; omega
    subst hc0
    subst hn0
    have h2 := Go.run_append_nil (P := P) w t ty e i z el.under hi hz ad' m k news hl hnews hm (by omega) (by have h3 := hbytes; rw [Nat.zero_add] at h3; omega)
    rw [h2] at hrun
    simp only [Result.ok.injEq, Value.slice.injEq] at hrun
    intro b o s hs
    rw [← hrun.1.1] at hs
    simp only [Option.some.injEq, Addr.mk.injEq] at hs
    left; omega
  | some x =>
    by_cases hroom : n + m ≤ c
    · rcases hcan.2.2 with ⟨h3, _⟩ | hown
      · omega
      · rcases hown.2 with ⟨h0, _⟩ | ⟨g', cap', cur, hv, _⟩
        · cases h0
        · simp only [Value.slice.injEq] at hv
          obtain ⟨hx, -, -⟩ := hv
          simp only [Option.some.injEq] at hx
          subst hx
          obtain ⟨w2, h2, -, -⟩ := run_append_own_spare (P := P) w D t ty e i i.size el.under hi rfl g' n c xs hown ad' m k news hl hnews h1 hroom
          rw [h2] at hrun
          simp only [Result.ok.injEq, Value.slice.injEq] at hrun
          rw [← hrun.1.1]
          exact Near.self _ _
    · have h2 := run_append_grow (P := P) w t ty e i z el.under hi hz x n c xs hcan.1 hcan.row.holds ad' m k news hl hnews (by omega) (by omega) (growslice_fits (by omega) hbytes)
      rw [h2] at hrun
      simp only [Result.ok.injEq, Value.slice.injEq] at hrun
      intro b o s hs
      rw [← hrun.1.1] at hs
      simp only [Option.some.injEq, Addr.mk.injEq] at hs
      left; omega
theorem wpList_nearE {P : Program} {w : World} {ops : Array Oper} {rest : List Oper} {o : Oper} {ac : Act} {Q : Exit → Act → World → Prop} {t e : TypeId} {size bytes : Nat} (el : Elem P t e size bytes) (hgd : o.guard = none) (s x : Operand)
    (ho : o.op = .call { callee := .builtin .append, args := #[s, x], argTypes := #[t, t] })
    (D : Nat) (a : Option Addr) (n c : Nat) (xs : List Value) (hs : ac.eval s = .slice a n c) (hcan : Can w D e size a n c xs)
    (ad : Option Addr) (m k : Nat) (news : List Value) (hx : ac.eval x = .slice ad m k) (hl : news.length = m * size) (hr : Row w ad news) (h1 : ∀ u ∈ news, u.oneCell' = true)
    (hbytes : (n + m) * bytes ≤ 140737488355328) (hD : D ≤ w.heap.size)
    (h : ∀ a' c' w', Can w' D e size a' (n + m) c' (xs ++ news) → w.grownBy w' (Value.slice a n c).ownBlock → Near w.heap.size a a' → wpList P ops Q rest (ac.put o.dst (.slice a' (n + m) c')) w') : wpList P ops Q (o :: rest) ac w := by
  obtain ⟨a', c', w', hrun, h2, h3, h4, h5⟩ := run_can el o.type D a n c xs hcan ad m k news hl hr h1 hbytes hD
  have hn : Near w.heap.size a a' := by
    by_cases hm : m = 0
    · rw [(h5.2 hm).1]; exact Near.self _ _
    · exact canNear el o.type D a n c xs hcan ad m k news hl hr h1 hbytes (by omega) hrun
  refine wpList_plain hgd fun K hK => ?_
  unfold Oper.wp execOp
  simp only [ho, resolve, invoke, builtin, Sem.run_bind, Sem.run_pure, Result.andThen_ok, List.map_toArray, List.map_cons, List.map_nil, hs, hx, hrun]
  exact hK _ _ (h a' c' w' h2 h3 hn)
end Go.Proofs.YtkboojpkkhiceaaDoor

/- A drawn region: an operation that its guard strikes may be taken first. -/
namespace Go.Proofs.YtkboojpkkhiceaaDoor
open Go

section
variable {P : Program} {ops : Array Oper} {Q : Exit → Act → World → Prop} {md : Region.Mode} {S : World → Prop}
theorem wpAnyH_skip (i : Nat) (d : Option Tmp) {fuel : Nat} {listed : Array Bool} {a : Act} {w : World} (hi : (ops[i]?).map (fun o => o.dst) = some d)
    (hs : Region.noSelect ops = true) (hf : Region.free md ops listed i = true) (hr : (Region.ready md ops listed).contains i = true)
    (hQ : ∀ c a w, Q (.panic c) (a.put d undef) w → Q (.panic c) a w) (hw : (ops[i]?).map (fun o => Region.wanted o (yielded ops a.tmps)) = some false) (hS : S w)
    (h : wpAnyH P md ops Q S fuel (listed.setIfInBounds i true) (a.put d undef) w) : wpAnyH P md ops Q S (fuel + 1) listed a w := by
  cases ho : ops[i]? with
  | none => rw [ho] at hi; cases hi
  | some o =>
    rw [ho, Option.map_some] at hi hw
    obtain rfl := Option.some.inj hi
    exact wpAnyH_take ho hs hf hr hQ (Or.inr ⟨Option.some.inj hw, rfl⟩) hS h
/-- The condition may be made stronger from here on. -/
theorem wpAnyH_up {S' : World → Prop} (hs : ∀ w, S' w → S w) : ∀ {fuel : Nat} {listed : Array Bool} {a : Act} {w : World}, wpAnyH P md ops Q S' fuel listed a w → wpAnyH P md ops Q S fuel listed a w
  | 0, _, _, _, h => h
  | _ + 1, _, _, _, h => ⟨h.1, fun i hi => wpOp_mono (fun _ _ h' => ⟨hs _ h'.1, wpAnyH_up hs h'.2⟩) (h.2 i hi)⟩
end
end Go.Proofs.YtkboojpkkhiceaaDoor

/- slices.IndexFunc: the place of the first that is so. -/
namespace Go.Proofs.YtkboojpkkhiceaaDoor
open Go.ChangeShapes Go.WideShapes Go.ChangeAt Go.RowKit
set_option maxRecDepth 100000

set_option maxHeartbeats 1000000 in
theorem indexFuncCal (xs : List HCall) (a : Option Addr) (n c : Nat) (fid : FuncId) (cap : Array Value) (p : HCall → Bool) (w : World) (hn : xs.length = n) (hl : n ≤ maxLen) (hr : LRow layCal w a xs)
    (hcf : ∀ (args : Array Value) (w : World), (callFunc fid args).run Tryd.prog w = .ok (.enter fid args) w)
    (hf : ∀ x ∈ xs, ∀ w', Below w.heap.size w w' → Calls Tryd.prog fid (#[(layCal).val x] ++ cap) w' fun e w'' => e = .returned (.bool (p x)) ∧ Below w'.heap.size w' w'') :
    Calls Tryd.prog 40 #[.slice a n c, .func (.func fid) #[] cap] w fun e w' => e = .returned (.int .i64 (idxL p xs)) ∧ Below w.heap.size w w' := by
  subst hn
  have hl2 := lt_maxLen hl
  have HI := Lib.hid (fun k (hk : k < xs.length) => idxL_some (p := p) hk)
  have HN := Lib.hid (idxL_none (p := p) (xs := xs))
  have HF := Lib.hid hf
  generalize idxL p xs = res at HI HN ⊢
  clear hf
  go_enter Tryd.func40, Tryd.ntmps40
  go_wp2
  go_loopw [8] (fun i wr => ∃ k : Nat, k ≤ xs.length ∧ i = .int .i64 k ∧ (∀ j (h : j < xs.length), j < k → p xs[j] = false) ∧ Below w.heap.size w wr) (fun i _ => xs.length - (intOf i).toNat)
  case atStart => exact ⟨0, by omega, rfl, by omega, Below.refl _ _⟩
  case round =>
    obtain ⟨k, hk, rfl, hno, hb⟩ := hrel
    have HNO := Lib.hid hno
    clear hno
    by_cases hlt : k < xs.length
    · obtain ⟨b, o, rfl, hcs⟩ := hr.range hlt
      have hrange := Lib.hid (hcs _ hb)
      have HF1 := Lib.hid (HF.out xs[k] (List.getElem_mem hlt) wr hb)
      clear hcs
      cases hp : p xs[k] with
      | true =>
        go_wp2_with (first
          | (refine wpList_load_lay layCal rfl _ rfl b (o + k * (layCal).size) rfl _ hrange.out ?_)
          | (refine HF1.out.mono ?_; rw [hp]; rintro e w2 ⟨rfl, hb2⟩))
        go_returns
        exact ⟨ret_int (HI.out k hlt HNO.out hp).symm, hb.trans (hb2.mono hb.size)⟩
      | false =>
        go_wp2_with (first
          | (refine wpList_load_lay layCal rfl _ rfl b (o + k * (layCal).size) rfl _ hrange.out ?_)
          | (refine HF1.out.mono ?_; rw [hp]; rintro e w2 ⟨rfl, hb2⟩))
        go_roundw
        case rel => exact ⟨k + 1, by omega, by go_num, fun j h hj => by rcases Nat.lt_succ_iff_lt_or_eq.1 hj with h1 | rfl; exact HNO.out j h h1; exact hp, hb.trans (hb2.mono hb.size)⟩
        case measure => simp [intOf]; omega
    · go_wp2
      go_returns
      exact ⟨ret_int (HN.out fun j h => HNO.out j h (by omega)).symm, hb⟩
end Go.Proofs.YtkboojpkkhiceaaDoor
