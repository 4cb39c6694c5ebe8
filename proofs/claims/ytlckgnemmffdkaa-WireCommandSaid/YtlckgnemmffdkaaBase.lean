/- What all the walks of this seat lean on: bytes and rows of cells in memory. -/
import Derived.Test.YtlckgnemmffdkaaRows
import Derived.WalkKit
import Derived.ProofKit
import Derived.Outline
import Derived.OpenShut
import Derived.ShutString
import Derived.ChangeOld
import Derived.Below
import Derived.Handy
import Derived.BigQuiet
import Derived.Deep.QuietTactic
import Derived.Deep.DeepFit
import Derived.StillTailTactics
import Derived.Deep.RegionWith
import Derived.ArgAppend
import Derived.Lib.Hide
import Derived.Lib.SlBytesConst
namespace Go.Proofs.Ytlckgnemmffdkaa
open Go.ChangeShapes Go.WideShapes Go.ChangeAt Go.RowKit
set_option maxRecDepth 100000

theorem ret_int {k : IntKind} {a b : Int} (h : a = b) : Ending.returned (.int k a) = .returned (.int k b) := by rw [h]
theorem val_int {k : IntKind} {a b : Int} (h : a = b) : Value.int k a = .int k b := by rw [h]
theorem ret_bool {a b : Bool} (h : a = b) : Ending.returned (.bool a) = .returned (.bool b) := by rw [h]
/-- A byte as a value. -/
abbrev B (x : UInt8) : Value := .int .u8 (x.toNat : Int)
/-- From the address on, the memory reads as these cells. -/
def Row (w : World) (a : Option Addr) (xs : List Value) : Prop :=
  xs = [] ∨ ∃ b o, a = some ⟨b, o, none⟩ ∧ ∀ i (h : i < xs.length), w.cell? ⟨b, o + i, none⟩ = some xs[i]
abbrev RowB (w : World) (a : Option Addr) (l : List UInt8) : Prop := Row w a (l.map B)

theorem Row.nil (w : World) (a : Option Addr) : Row w a [] := .inl rfl
theorem Row.at {w : World} {a : Option Addr} {xs : List Value} (h : Row w a xs) {k : Nat} (hk : k < xs.length) :
    ∃ b o, a = some ⟨b, o, none⟩ ∧ ∀ i (h : i < xs.length), w.cell? ⟨b, o + i, none⟩ = some xs[i] := by
  rcases h with rfl | h
  · simp at hk
  · exact h
theorem RowB.at {w : World} {a : Option Addr} {l : List UInt8} (h : RowB w a l) {k : Nat} (hk : k < l.length) :
    ∃ b o, a = some ⟨b, o, none⟩ ∧ ∀ i (h : i < l.length), w.cell? ⟨b, o + i, none⟩ = some (.int .u8 (l[i].toNat : Int)) := by
  obtain ⟨b, o, ha, hc⟩ := Row.at h (k := k) (by simpa using hk)
  exact ⟨b, o, ha, fun i hi => by have := hc i (by simpa using hi); rw [List.getElem_map] at this; exact this⟩

theorem maxLen_eq : maxLen = 9223372036854775807 := by decide
theorem le_maxLen {n : Nat} (h : n ≤ 1048576) : n ≤ maxLen := Nat.le_trans h (by decide)
theorem lt_maxLen {n : Nat} (h : n ≤ maxLen) : n ≤ 9223372036854775807 := maxLen_eq ▸ h

/-- What the table says of a slice type and its elements. -/
structure Elem (P : Program) (t e : TypeId) (size bytes : Nat) : Prop where
  under : P.underlying t = some (.slice e)
  info : ∃ i z, P.info? e = some i ∧ i.zero = some z ∧ i.size = size ∧ i.bytes = bytes ∧ z.cells.size = size
  pos : 0 < size
  bpos : 0 < bytes

theorem run_firstCells_nil {P : Program} (w : World) (size n c : Nat) : (Builtin.firstCells size 0 (.slice none n c)).run P w = .ok #[] w := by
  simp [Builtin.firstCells]

theorem run_append_nil {P : Program} {w : World} (base : Nat) (t ty e : TypeId) (i : TypeInfo) (size : Nat) (ht : P.underlying t = some (.slice e)) (hi : P.info? e = some i)
    (v : Value) (n c : Nat) (xs : List Value) (hown : w.ownsRow base e size v n xs) :
    (Builtin.append_ #[t, t] ty #[v, .slice none 0 c]).run P w = .ok v w := by
  rcases hown.2 with ⟨rfl, rfl⟩ | ⟨g, cap, cur, rfl, _, _, hnc, _⟩
  · simp [Builtin.append_, run_underlying ht, sizeOf, typeInfo, hi, Builtin.lenOf, Builtin.firstCells]
  · simp [Builtin.append_, run_underlying ht, sizeOf, typeInfo, hi, Builtin.lenOf, Builtin.firstCells, hnc, storeCells]

theorem own_slice {w : World} {base : Nat} {e : TypeId} {size : Nat} {v : Value} {n : Nat} {xs : List Value} (h : w.ownsRow base e size v n xs) :
    ∃ a c, v = .slice a n c ∧ n ≤ c ∧ c ≤ maxLen ∧ (a = none → c = 0) := by
  rcases h.2 with ⟨rfl, rfl⟩ | ⟨g, cap, cur, rfl, _, _, hnc, hm, _⟩
  · exact ⟨none, 0, rfl, Nat.le_refl _, Nat.zero_le _, fun _ => rfl⟩
  · exact ⟨_, cap, rfl, hnc, hm, fun h => by simp at h⟩

theorem own_row {w : World} {base : Nat} {e : TypeId} {size : Nat} {a : Option Addr} {n c : Nat} {xs : List Value} (h : w.ownsRow base e size (.slice a n c) n xs) : Row w a xs := by
  obtain ⟨hl, h⟩ := h
  rcases h with ⟨hv, rfl⟩ | ⟨g, cap, cur, hv, _, hg, hnc, hm, hs, ht⟩
  · exact .inl (List.eq_nil_of_length_eq_zero (by simpa using hl))
  · simp only [Value.slice.injEq] at hv
    obtain ⟨rfl, _, rfl⟩ := hv
    refine .inr ⟨g, 0, rfl, fun i hi => ?_⟩
    subst ht
    have hi2 : i < n * size := by simp at hi; omega
    have h2 : n * size ≤ cur.size := by rw [hs]; exact Nat.mul_le_mul_right _ hnc
    simp only [World.cell?, hg, Nat.zero_add, Option.isSome_none, Bool.false_eq_true, if_false]
    rw [Array.getElem?_eq_getElem (by omega)]
    simp

theorem wpList_app {P : Program} {w : World} {ops : Array Oper} {rest : List Oper} {o : Oper} {a : Act} {Q : Exit → Act → World → Prop} {t e : TypeId} {size bytes : Nat} (el : Elem P t e size bytes) (hgd : o.guard = none) (s x : Operand)
    (ho : o.op = .call { callee := .builtin .append, args := #[s, x], argTypes := #[t, t] })
    (base : Nat) (v : Value) (n : Nat) (xs : List Value) (hs : a.eval s = v) (hown : w.ownsRow base e size v n xs)
    (ad : Option Addr) (m c : Nat) (news : List Value) (hx : a.eval x = .slice ad m c) (hl : news.length = m * size) (hr : Row w ad news) (h1 : ∀ u ∈ news, u.oneCell' = true)
    (hbytes : (n + m) * bytes ≤ 140737488355328) (hbase : base ≤ w.heap.size)
    (h : ∀ a' c' w', w'.ownsRow base e size (.slice a' (n + m) c') (n + m) (xs ++ news) → w.grownBy w' v.ownBlock → wpList P ops Q rest (a.put o.dst (.slice a' (n + m) c')) w') : wpList P ops Q (o :: rest) a w := by
  obtain ⟨i, z, hi, hz, hsize, hby, hzs⟩ := el.info
  have hb := el.bpos
  have h63 : n + m ≤ maxLen := by
    have : n + m ≤ (n + m) * bytes := Nat.le_mul_of_pos_right _ hb
    unfold maxLen; omega
  cases ad with
  | some ad =>
    refine wpList_append_own w hgd s x t ho base e i z size bytes el.under hi hz hsize hby hzs el.pos v n xs hs hown ad m c news hx hl ?_ h1 h63 hbytes hbase ?_
    · intro j u hj
      rcases hr with rfl | ⟨b, o, ha, hc⟩
      · simp at hj
      · simp only [Option.some.injEq] at ha
        subst ha
        obtain ⟨hj1, rfl⟩ := List.getElem?_eq_some_iff.1 hj
        have := hc j hj1
        by_cases h0 : j = 0
        · subst h0; simpa [Addr.add] using this
        · simpa [Addr.add, h0] using this
    · intro v' w' ho' hg' _
      obtain ⟨a', c', rfl, _⟩ := own_slice ho'
      exact h a' c' w' ho' hg'
  | none =>
    rcases hr with rfl | ⟨b, o, ha, hc⟩
    · have hm : m = 0 := by
        have hp := el.pos
        rcases Nat.eq_zero_or_pos m with h | h
        · exact h
        · have := Nat.mul_pos h hp
          simp at hl
          omega
      subst hm
      refine wpList_plain hgd fun K hK => ?_
      unfold Oper.wp execOp
      have hrun2 := run_append_nil (P := P) (w := w) base t o.type e i size el.under hi v n c xs hown
      simp only [ho, resolve, invoke, builtin, Sem.run_bind, Sem.run_pure, Result.andThen_ok, List.map_toArray, List.map_cons, List.map_nil, hs, hx, hrun2]
      obtain ⟨a', c', rfl, _⟩ := own_slice hown
      refine hK _ _ (h a' c' w ?_ ⟨rfl, rfl, rfl, Nat.le_refl _, fun _ _ _ => rfl⟩)
      rw [Nat.add_zero, List.append_nil]
      exact hown
    · simp at ha

theorem Row.lt {w : World} {b o : Nat} {xs : List Value} (h : Row w (some ⟨b, o, none⟩) xs) (h0 : xs ≠ []) : b < w.heap.size := by
  rcases h with h | ⟨b', o', ha, hc⟩
  · exact absurd h h0
  · simp at ha
    obtain ⟨rfl, rfl⟩ := ha
    exact World.block_lt_of_cell? w _ (hc 0 (List.length_pos_iff.2 h0))
theorem Row.get {w : World} {a : Option Addr} {xs : List Value} {k : Nat} {x : Value} (h : Row w a xs) (hk : xs[k]? = some x) :
    ∃ b o, a = some ⟨b, o, none⟩ ∧ w.cell? ⟨b, o + k, none⟩ = some x := by
  obtain ⟨hlt, rfl⟩ := List.getElem?_eq_some_iff.1 hk
  obtain ⟨b, o, rfl, hc⟩ := h.at hlt
  exact ⟨b, o, rfl, hc k hlt⟩
/-- What is read stays where no old block has turned. -/
theorem Row.below {w w' : World} {a : Option Addr} {xs : List Value} (h : Row w a xs) (hb : Below w.heap.size w w') : Row w' a xs := by
  by_cases h0 : xs = []
  · exact .inl h0
  · rcases h with h | ⟨b, o, rfl, hc⟩
    · exact absurd h h0
    · have hlt := Row.lt (.inr ⟨b, o, rfl, hc⟩) h0
      exact .inr ⟨b, o, rfl, fun i hi => (hb.cell (p := ⟨b, o + i, none⟩) hlt).trans (hc i hi)⟩
theorem Row.alloc {w : World} {a : Option Addr} {xs : List Value} (h : Row w a xs) (o : Obj) : Row (w.alloc o) a xs := h.below ((Below.refl _ _).alloc (Nat.le_refl _) o)
theorem Row.drew {w : World} {a : Option Addr} {xs : List Value} (h : Row w a xs) : Row w.drew a xs := h
/-- A row of cells known whole. -/
theorem Row.of_block {w : World} {g : Nat} {cs : Array Value} {e : TypeId} {f : Nat × Nat} (h : w.heap[g]? = some (.cells cs e f)) : Row w (some ⟨g, 0, none⟩) cs.toList := by
  refine .inr ⟨g, 0, rfl, fun i hi => ?_⟩
  simp only [World.cell?, h, Nat.zero_add, Option.isSome_none, Bool.false_eq_true, if_false]
  rw [Array.getElem?_eq_getElem (by simpa using hi)]
  simp
theorem Row.new (w : World) (cs : Array Value) (e : TypeId) (f : Nat × Nat) : Row (w.alloc (.cells cs e f)) (some ⟨w.heap.size, 0, none⟩) cs.toList := Row.of_block (heap_alloc_new w _)
theorem Row.setFar {w : World} {g : Nat} {xs : List Value} (h : Row w (some ⟨g, 0, none⟩) xs) {p : Addr} (hp : p.block ≠ g) (v : Value) : Row (w.setCell p v) (some ⟨g, 0, none⟩) xs := by
  rcases h with h | ⟨b, o, ha, hc⟩
  · exact .inl h
  · simp only [Option.some.injEq, Addr.mk.injEq, and_true] at ha
    obtain ⟨rfl, rfl⟩ := ha
    exact .inr ⟨g, 0, rfl, fun i hi => (World.cell?_setCell_other w p _ v (fun e => hp (congrArg Addr.block e))).trans (hc i hi)⟩
theorem Row.take {w : World} {a : Option Addr} {xs : List Value} (h : Row w a xs) (j : Nat) : Row w a (xs.take j) := by
  rcases h with rfl | ⟨b, o, ha, hc⟩
  · exact .inl (by simp)
  · exact .inr ⟨b, o, ha, fun i hi => by
      have hi2 : i < xs.length := by simp at hi; omega
      rw [hc i hi2]; simp⟩
theorem Row.drop {w : World} {b o : Nat} {xs : List Value} (h : Row w (some ⟨b, o, none⟩) xs) (j : Nat) : Row w (some ⟨b, o + j, none⟩) (xs.drop j) := by
  rcases h with rfl | ⟨b', o', ha, hc⟩
  · exact .inl (by simp)
  · simp only [Option.some.injEq, Addr.mk.injEq, and_true] at ha
    obtain ⟨rfl, rfl⟩ := ha
    exact .inr ⟨b, o + j, rfl, fun i hi => by
      have hi2 : j + i < xs.length := by simp at hi; omega
      have := hc (j + i) hi2
      rw [Nat.add_assoc, this]; simp⟩
theorem Row.getBelow {w : World} {a : Option Addr} {xs : List Value} {k : Nat} {x : Value} (h : Row w a xs) (hk : xs[k]? = some x) :
    ∃ b o, a = some ⟨b, o, none⟩ ∧ ∀ w', Below w.heap.size w w' → w'.cell? ⟨b, o + k, none⟩ = some x := by
  obtain ⟨b, o, rfl, hc⟩ := h.get hk
  exact ⟨b, o, rfl, fun w' hb => (hb.cell (p := ⟨b, o + k, none⟩) (World.block_lt_of_cell? w _ hc)).trans hc⟩
theorem Below.app {B0 : Nat} {w0 w w' : World} {e : TypeId} {size n : Nat} {v : Value} {xs : List Value} (h : Below B0 w0 w) (hown : w.ownsRow B0 e size v n xs) (hg : w.grownBy w' v.ownBlock) (hB : B0 ≤ w.heap.size) : Below B0 w0 w' :=
  h.grown hg hB fun k hk => (hown.lt k hk).1
theorem flatMap_at {α : Type} {cells : α → List Value} {size : Nat} (hs : ∀ x, (cells x).length = size) : ∀ {xs : List α} {i r : Nat}, r < size → (xs.flatMap cells)[i * size + r]? = (xs[i]?).bind fun x => (cells x)[r]?
  | [], i, r, _ => by simp
  | x :: xs, 0, r, hr => by
    simp only [List.flatMap_cons, Nat.zero_mul, Nat.zero_add, List.getElem?_cons_zero, Option.bind_some]
    rw [List.getElem?_append_left (by rw [hs]; exact hr)]
  | x :: xs, i + 1, r, hr => by
    simp only [List.flatMap_cons, List.getElem?_cons_succ]
    rw [List.getElem?_append_right (by rw [hs, Nat.succ_mul]; omega), hs, Nat.succ_mul, show i * size + size + r - size = i * size + r from by omega]
    exact flatMap_at hs hr
theorem flatMap_one {α β : Type} (f : α → β) (xs : List α) : xs.flatMap (fun x => [f x]) = xs.map f := by
  induction xs with
  | nil => rfl
  | cons x xs ih => rw [List.flatMap_cons, ih]; rfl
theorem flatMap_len {α : Type} {cells : α → List Value} {size : Nat} (hs : ∀ x, (cells x).length = size) (xs : List α) : (xs.flatMap cells).length = xs.length * size := by
  induction xs with
  | nil => simp
  | cons x xs ih => rw [List.flatMap_cons, List.length_append, ih, hs, List.length_cons, Nat.succ_mul]; omega

theorem Row.holds {w : World} {ad : Addr} {xs : List Value} (h : Row w (some ad) xs) : ∀ j u, xs[j]? = some u → w.cell? (ad.add j) = some u := by
  intro j u hj
  rcases h with rfl | ⟨b, o, ha, hc⟩
  · simp at hj
  · simp only [Option.some.injEq] at ha
    subst ha
    obtain ⟨hj1, rfl⟩ := List.getElem?_eq_some_iff.1 hj
    have := hc j hj1
    by_cases h0 : j = 0
    · subst h0; simpa [Addr.add] using this
    · simpa [Addr.add, h0] using this

/-- A slice that may be appended to: it is full (so an append makes a new row), or it is a row of the call's own, from block B on. -/
def Can (w : World) (B : Nat) (e : TypeId) (size : Nat) (a : Option Addr) (n c : Nat) (xs : List Value) : Prop :=
  xs.length = n * size ∧ n ≤ maxLen ∧ ((n = c ∧ Row w a xs) ∨ w.ownsRow B e size (.slice a n c) n xs)

theorem Can.nil (w : World) (B : Nat) (e : TypeId) (size : Nat) : Can w B e size none 0 0 [] := ⟨by simp, Nat.zero_le _, .inl ⟨rfl, .inl rfl⟩⟩
theorem Can.empty (w : World) (B : Nat) (e : TypeId) (size : Nat) (a : Option Addr) : Can w B e size a 0 0 [] := ⟨by simp, Nat.zero_le _, .inl ⟨rfl, .inl rfl⟩⟩
theorem Can.full {w : World} {B : Nat} {e : TypeId} {size : Nat} {a : Option Addr} {n : Nat} {xs : List Value} (h : Row w a xs) (hl : xs.length = n * size) (hn : n ≤ maxLen) : Can w B e size a n n xs := ⟨hl, hn, .inl ⟨rfl, h⟩⟩
theorem Can.row {w : World} {B : Nat} {e : TypeId} {size : Nat} {a : Option Addr} {n c : Nat} {xs : List Value} (h : Can w B e size a n c xs) : Row w a xs := by
  rcases h.2.2 with ⟨_, h⟩ | h
  · exact h
  · exact own_row h
theorem Can.le {w : World} {B : Nat} {e : TypeId} {size : Nat} {a : Option Addr} {n c : Nat} {xs : List Value} (h : Can w B e size a n c xs) : n ≤ c := by
  rcases h.2.2 with ⟨h, _⟩ | h
  · omega
  · obtain ⟨a', c', hv, hl, _⟩ := own_slice h
    simp only [Value.slice.injEq] at hv
    omega
theorem Can.none {w : World} {B : Nat} {e : TypeId} {size : Nat} {a : Option Addr} {n c : Nat} {xs : List Value} (h : Can w B e size a n c xs) (hp : 0 < size) : a = none → c = 0 := by
  intro ha
  rcases h.2.2 with ⟨rfl, hr⟩ | h2
  · rcases hr with rfl | ⟨_, _, h3, _⟩
    · rcases Nat.eq_zero_or_pos n with h4 | h4
      · exact h4
      · have := Nat.mul_pos h4 hp
        have h0 := h.1
        simp at h0; omega
    · rw [ha] at h3; simp at h3
  · obtain ⟨a', c', hv, _, _, hc⟩ := own_slice h2
    simp only [Value.slice.injEq] at hv
    obtain ⟨rfl, _, rfl⟩ := hv
    exact hc ha
theorem own_block {w : World} {B : Nat} {e : TypeId} {size : Nat} {a : Option Addr} {n c : Nat} {xs : List Value} (h : w.ownsRow B e size (.slice a n c) n xs) : ∀ b o s, a = some ⟨b, o, s⟩ → B ≤ b := by
  intro b o s ha
  exact (h.lt b (by rw [ha]; rfl)).1
/-- A row's address lies in memory from B on, or in the source's block. -/
def Near (B : Nat) (src a : Option Addr) : Prop := ∀ b o s, a = some ⟨b, o, s⟩ → B ≤ b ∨ ∃ o' s', src = some ⟨b, o', s'⟩
theorem Near.self (B : Nat) (a : Option Addr) : Near B a a := fun b o s h => .inr ⟨o, s, h⟩
theorem Near.nil (B : Nat) (src : Option Addr) : Near B src none := fun _ _ _ h => by cases h
theorem Near.own {w : World} {B B' : Nat} {e : TypeId} {size : Nat} {a src : Option Addr} {n c : Nat} {xs : List Value} (h : w.ownsRow B e size (.slice a n c) n xs) (hB : B' ≤ B) : Near B' src a :=
  fun b o s ha => .inl (Nat.le_trans hB (own_block h b o s ha))
theorem Near.mono {B B' : Nat} {src a : Option Addr} (h : Near B src a) (hB : B' ≤ B) : Near B' src a := fun b o s ha => (h b o s ha).imp (Nat.le_trans hB) id
theorem Near.trans' {B : Nat} {a : Option Addr} (h : Near B none a) (src : Option Addr) : Near B src a := fun b o s ha => by
  rcases h b o s ha with h1 | ⟨_, _, h1⟩
  · exact .inl h1
  · cases h1
theorem Near.trans {B : Nat} {src a b : Option Addr} (h : Near B src a) (h2 : Near B a b) : Near B src b := fun x o s hb => by
  rcases h2 x o s hb with h3 | ⟨o', s', h3⟩
  · exact .inl h3
  · exact h x o' s' h3
theorem Row.setOther {w : World} {a : Option Addr} {xs : List Value} (h : Row w a xs) {p : Addr} (hp : ∀ b o s, a = some ⟨b, o, s⟩ → b ≠ p.block) (v : Value) : Row (w.setCell p v) a xs := by
  rcases h with h | ⟨b, o, ha, hc⟩
  · exact .inl h
  · exact .inr ⟨b, o, ha, fun i hi => (World.cell?_setCell_other w p _ v (fun e => hp b o none ha (congrArg Addr.block e).symm)).trans (hc i hi)⟩
theorem Can.drew {w : World} {B : Nat} {e : TypeId} {size : Nat} {a : Option Addr} {n c : Nat} {xs : List Value} (h : Can w B e size a n c xs) : Can w.drew B e size a n c xs := h

/-- append: where the base may be appended to and the source can be read. -/
theorem run_can {P : Program} {w : World} {t e : TypeId} {size bytes : Nat} (el : Elem P t e size bytes) (ty : TypeId) (B : Nat) (a : Option Addr) (n c : Nat) (xs : List Value) (hcan : Can w B e size a n c xs)
    (ad : Option Addr) (m k : Nat) (news : List Value) (hl : news.length = m * size) (hr : Row w ad news) (h1 : ∀ u ∈ news, u.oneCell' = true) (hbytes : (n + m) * bytes ≤ 140737488355328) (hB : B ≤ w.heap.size) :
    ∃ a' c' w', (Builtin.append_ #[t, t] ty #[.slice a n c, .slice ad m k]).run P w = .ok (.slice a' (n + m) c') w' ∧ Can w' B e size a' (n + m) c' (xs ++ news) ∧ w.grownBy w' (Value.slice a n c).ownBlock ∧ Below B w w' ∧ (0 < m → w'.ownsRow B e size (.slice a' (n + m) c') (n + m) (xs ++ news)) ∧ (m = 0 → a' = a ∧ c' = c) := by
  obtain ⟨i, z, hi, hz, hsize, hby, hzs⟩ := el.info
  have hb := el.bpos
  have hp := el.pos
  have h63 : n + m ≤ maxLen := by
    have : n + m ≤ (n + m) * bytes := Nat.le_mul_of_pos_right _ hb
    unfold maxLen; omega
  have hlen : (xs ++ news).length = (n + m) * size := by rw [List.length_append, hcan.1, hl, Nat.add_mul]
  by_cases hm : m = 0
  · subst hm
    obtain rfl : news = [] := List.eq_nil_of_length_eq_zero (by simpa using hl)
    refine ⟨a, c, w, ?_, ?_, ⟨rfl, rfl, rfl, Nat.le_refl _, fun _ _ _ => rfl⟩, Below.refl _ _, fun h => absurd h (by omega), fun _ => ⟨rfl, rfl⟩⟩
    · have hle := hcan.le
      have hfc : ∀ w' : World, (Builtin.firstCells size 0 (.slice ad 0 k)).run P w' = .ok #[] w' := fun w' => by
        cases ad with
        | none => simp [Builtin.firstCells]
        | some ad => exact run_firstCells_some w' size 0 ad 0 k [] (by simp) (fun j u h => by simp at h)
      rw [← hsize] at hfc
      cases a with
      | none => simp [Builtin.append_, run_underlying el.under, sizeOf, typeInfo, hi, Builtin.lenOf, hle, hfc]
      | some x => simp [Builtin.append_, run_underlying el.under, sizeOf, typeInfo, hi, Builtin.lenOf, hle, hfc, storeCells]
    · rw [Nat.add_zero, List.append_nil]; exact hcan
  · obtain ⟨ad', rfl⟩ : ∃ x, ad = some x := by
      cases ad with
      | some x => exact ⟨x, rfl⟩
      | none =>
        rcases hr with rfl | ⟨_, _, h, _⟩
        · have := Nat.mul_pos (Nat.pos_of_ne_zero hm) hp
          simp at hl; omega
        · simp at h
    rcases hcan.2.2 with ⟨rfl, hrow⟩ | hown
    · have fin : ∀ v' w', w'.ownsRow w.heap.size e size v' (n + m) (xs ++ news) → w.grownBy w' none →
          ∃ a' c', v' = .slice a' (n + m) c' ∧ Can w' B e size a' (n + m) c' (xs ++ news) ∧ w.grownBy w' (Value.slice a n n).ownBlock ∧ Below B w w' ∧ (0 < m → w'.ownsRow B e size (.slice a' (n + m) c') (n + m) (xs ++ news)) ∧ (m = 0 → a' = a ∧ c' = n) := by
        intro v' w' ho hg
        obtain ⟨a', c', rfl, hc1, hc2, _⟩ := own_slice ho
        have hB2 : w'.ownsRow B e size (.slice a' (n + m) c') (n + m) (xs ++ news) := by
          obtain ⟨ho1, ho2⟩ := ho
          refine ⟨ho1, ?_⟩
          rcases ho2 with h | ⟨g, cap, cur, h2, h3, h4⟩
          · exact .inl h
          · exact .inr ⟨g, cap, cur, h2, Nat.le_trans hB h3, h4⟩
        exact ⟨a', c', rfl, ⟨hlen, h63, .inr hB2⟩, ⟨hg.os, hg.tape, hg.output, hg.size, fun q hq _ => hg.block q hq (by simp)⟩, (Below.refl B w).grown hg hB (fun _ h => by cases h), fun _ => hB2, fun h => absurd h hm⟩
      cases a with
      | some x =>
        obtain ⟨v', w', hrun, ho, hg⟩ := run_append_arg_grows w t ty e i z size bytes el.under hi hz hsize hby hzs hp x n n xs hcan.1 hrow.holds ad' m k news hl hr.holds (by omega) h63 hbytes
        obtain ⟨a', c', rfl, h⟩ := fin v' w' ho hg
        exact ⟨a', c', w', hrun, h⟩
      | none =>
        have hx : xs = [] := by
          rcases hrow with h | ⟨_, _, h, _⟩
          · exact h
          · simp at h
        subst hx
        have hn : n = 0 := by
          rcases Nat.eq_zero_or_pos n with h | h
          · exact h
          · have := Nat.mul_pos h hp
            have h0 := hcan.1
            simp at h0
            omega
        subst hn
        obtain ⟨v', w', hrun, ho, hg, _⟩ := run_append_own w w.heap.size t ty e i z size bytes el.under hi hz hsize hby hzs hp (.slice none 0 0) 0 [] (World.ownsRow_nil _ _ _ _) ad' m k news hl hr.holds h1 h63 hbytes (Nat.le_refl _)
        obtain ⟨a', c', rfl, h⟩ := fin v' w' ho hg
        exact ⟨a', c', w', hrun, h⟩
    · obtain ⟨v', w', hrun, ho, hg, _⟩ := run_append_own w B t ty e i z size bytes el.under hi hz hsize hby hzs hp (.slice a n c) n xs hown ad' m k news hl hr.holds h1 h63 hbytes hB
      obtain ⟨a', c', rfl, hc1, hc2, _⟩ := own_slice ho
      exact ⟨a', c', w', hrun, ⟨hlen, h63, .inr ho⟩, hg, Below.app (Below.refl B w) hown hg hB, fun _ => ho, fun h => absurd h hm⟩

theorem wpList_can {P : Program} {w : World} {ops : Array Oper} {rest : List Oper} {o : Oper} {ac : Act} {Q : Exit → Act → World → Prop} {t e : TypeId} {size bytes : Nat} (el : Elem P t e size bytes) (hgd : o.guard = none) (s x : Operand)
    (ho : o.op = .call { callee := .builtin .append, args := #[s, x], argTypes := #[t, t] })
    (B : Nat) (a : Option Addr) (n c : Nat) (xs : List Value) (hs : ac.eval s = .slice a n c) (hcan : Can w B e size a n c xs)
    (ad : Option Addr) (m k : Nat) (news : List Value) (hx : ac.eval x = .slice ad m k) (hl : news.length = m * size) (hr : Row w ad news) (h1 : ∀ u ∈ news, u.oneCell' = true)
    (hbytes : (n + m) * bytes ≤ 140737488355328) (hB : B ≤ w.heap.size)
    (h : ∀ a' c' w', Can w' B e size a' (n + m) c' (xs ++ news) → w.grownBy w' (Value.slice a n c).ownBlock → Below B w w' → (0 < m → w'.ownsRow B e size (.slice a' (n + m) c') (n + m) (xs ++ news)) ∧ (m = 0 → a' = a ∧ c' = c) → wpList P ops Q rest (ac.put o.dst (.slice a' (n + m) c')) w') : wpList P ops Q (o :: rest) ac w := by
  obtain ⟨a', c', w', hrun, h2, h3, h4, h5⟩ := run_can el o.type B a n c xs hcan ad m k news hl hr h1 hbytes hB
  refine wpList_plain hgd fun K hK => ?_
  unfold Oper.wp execOp
  simp only [ho, resolve, invoke, builtin, Sem.run_bind, Sem.run_pure, Result.andThen_ok, List.map_toArray, List.map_cons, List.map_nil, hs, hx, hrun]
  exact hK _ _ (h a' c' w' h2 h3 h4 h5)

theorem flatMap_drop {α : Type} {cells : α → List Value} {size : Nat} (hs : ∀ x, (cells x).length = size) : ∀ (xs : List α) (k : Nat), (xs.flatMap cells).drop (k * size) = (xs.drop k).flatMap cells
  | [], k => by simp
  | x :: xs, 0 => by simp
  | x :: xs, k + 1 => by
    rw [List.flatMap_cons, List.drop_succ_cons, Nat.succ_mul, Nat.add_comm, ← hs x, ← List.drop_drop, List.drop_left, hs x]
    exact flatMap_drop hs xs k
theorem flatMap_take {α : Type} {cells : α → List Value} {size : Nat} (hs : ∀ x, (cells x).length = size) : ∀ (xs : List α) (k : Nat), (xs.flatMap cells).take (k * size) = (xs.take k).flatMap cells
  | [], k => by simp
  | x :: xs, 0 => by simp
  | x :: xs, k + 1 => by
    rw [List.flatMap_cons, List.take_succ_cons, List.flatMap_cons, Nat.succ_mul, Nat.add_comm, ← hs x, List.take_length_add_append, hs x]
    rw [flatMap_take hs xs k]

theorem step_can {P : Program} {w : World} {ops : Array Oper} {o : Oper} {ac : Act} {K : Act → World → Prop} {Q : Exit → Act → World → Prop} {E : Prop} {t e : TypeId} {size bytes : Nat} (el : Elem P t e size bytes) (hgd : o.guard = none) (s x : Operand)
    (ho : o.op = .call { callee := .builtin .append, args := #[s, x], argTypes := #[t, t] })
    (B : Nat) (a : Option Addr) (n c : Nat) (xs : List Value) (hs : ac.eval s = .slice a n c) (hcan : Can w B e size a n c xs)
    (ad : Option Addr) (m k : Nat) (news : List Value) (hx : ac.eval x = .slice ad m k) (hl : news.length = m * size) (hr : Row w ad news) (h1 : ∀ u ∈ news, u.oneCell' = true)
    (hbytes : (n + m) * bytes ≤ 140737488355328) (hB : B ≤ w.heap.size)
    (h : ∀ a' c' w', Can w' B e size a' (n + m) c' (xs ++ news) → w.grownBy w' (Value.slice a n c).ownBlock → Below B w w' → (0 < m → w'.ownsRow B e size (.slice a' (n + m) c') (n + m) (xs ++ news)) ∧ (m = 0 → a' = a ∧ c' = c) → K (ac.put o.dst (.slice a' (n + m) c')) w') :
    if Region.wanted o (yielded ops ac.tmps) = true then Oper.wp P o ac w K Q else E := by
  have hw : Region.wanted o (yielded ops ac.tmps) = true := by simp [Region.wanted, hgd]
  rw [if_pos hw]
  obtain ⟨a', c', w', hrun, h2, h3, h4, h5⟩ := run_can el o.type B a n c xs hcan ad m k news hl hr h1 hbytes hB
  unfold Oper.wp execOp
  simp only [ho, resolve, invoke, builtin, Sem.run_bind, Sem.run_pure, Result.andThen_ok, List.map_toArray, List.map_cons, List.map_nil, hs, hx, hrun]
  exact h a' c' w' h2 h3 h4 h5
theorem own_cells {w w' : World} {c : Array Value} {e : TypeId} (hb : Below (w.alloc (.cells c e)).heap.size (w.alloc (.cells c e)) w') : ∀ j, w'.cell? ⟨w.heap.size, j, none⟩ = c[j]? :=
  fun j => (hb.cell (p := ⟨w.heap.size, j, none⟩) (by simp)).trans (World.cell?_alloc_at _ _ _ j rfl)
theorem own_frozen {w w' : World} {c : Array Value} {e : TypeId} (hb : Below (w.alloc (.cells c e)).heap.size (w.alloc (.cells c e)) w') : ∀ j, w'.frozen? ⟨w.heap.size, j, none⟩ = false :=
  fun j => (hb.frozen (p := ⟨w.heap.size, j, none⟩) (by simp)).trans (World.frozen?_alloc_at _ _ _ j rfl)

theorem Below.more {w w1 : World} (h : Below w.heap.size w w1) (o : Obj) : Below w.heap.size w (w1.alloc o) := h.alloc h.size o
theorem Below.next {w w1 w2 : World} (h : Below w.heap.size w w1) (k : Below w1.heap.size w1 w2) : Below w.heap.size w w2 := h.trans (k.mono h.size)
theorem Below.put {w w1 : World} {p : Addr} (h : Below w.heap.size w w1) (hp : w.heap.size ≤ p.block) (u : Value) : Below w.heap.size w (w1.setCell p u) := h.setCell hp u
theorem Below.size' {w w1 : World} (h : Below w.heap.size w w1) : w.heap.size ≤ w1.heap.size := h.size
theorem below_drewN {B : Nat} {a w : World} (h : Below B a w) (n : Nat) : Below B a (w.drewN n) := ⟨h.os, h.tape, h.output, h.size, h.block⟩
theorem Below.boxed {w w' : World} {o : Obj} (h : Below (w.alloc o).heap.size (w.alloc o) w') : w.heap.size < w'.heap.size := by have := h.size; simp at this; omega
end Go.Proofs.Ytlckgnemmffdkaa
