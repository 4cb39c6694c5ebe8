/- What all the walks of this seat lean on: bytes and rows of cells in memory. -/
import Derived.Test.YtmlpgpopaakjbaaRows
import Derived.WalkKit
import Derived.ProofKit
import Derived.Outline
import Derived.OpenShut
import Derived.ShutString
import Derived.ChangeOld
import Derived.Below
import Derived.Handy
import Derived.BigQuiet
import Derived.Deep.QuietTactic
import Derived.Deep.DeepFit
import Derived.StillTailTactics
import Derived.Deep.RegionWith
import Derived.Lib.Hide
import Derived.Lib.SlBytesConst
namespace Go.Proofs.Ytmlpgpopaakjbaa
open Go.ChangeShapes Go.WideShapes Go.ChangeAt Go.RowKit

/-- A byte as a value. -/
abbrev B (x : UInt8) : Value := .int .u8 (x.toNat : Int)
/-- From the address on, the memory reads as these cells. -/
def Row (w : World) (a : Option Addr) (xs : List Value) : Prop :=
  xs = [] ∨ ∃ b o, a = some ⟨b, o, none⟩ ∧ ∀ i (h : i < xs.length), w.cell? ⟨b, o + i, none⟩ = some xs[i]
abbrev RowB (w : World) (a : Option Addr) (l : List UInt8) : Prop := Row w a (l.map B)

theorem Row.nil (w : World) (a : Option Addr) : Row w a [] := .inl rfl
theorem Row.at {w : World} {a : Option Addr} {xs : List Value} (h : Row w a xs) {k : Nat} (hk : k < xs.length) :
    ∃ b o, a = some ⟨b, o, none⟩ ∧ ∀ i (h : i < xs.length), w.cell? ⟨b, o + i, none⟩ = some xs[i] := by
  rcases h with rfl | h
  · simp at hk
  · exact h
theorem RowB.at {w : World} {a : Option Addr} {l : List UInt8} (h : RowB w a l) {k : Nat} (hk : k < l.length) :
    ∃ b o, a = some ⟨b, o, none⟩ ∧ ∀ i (h : i < l.length), w.cell? ⟨b, o + i, none⟩ = some (.int .u8 (l[i].toNat : Int)) := by
  obtain ⟨b, o, ha, hc⟩ := Row.at h (k := k) (by simpa using hk)
  exact ⟨b, o, ha, fun i hi => by have := hc i (by simpa using hi); rw [List.getElem_map] at this; exact this⟩

theorem maxLen_eq : maxLen = 9223372036854775807 := by decide
theorem le_maxLen {n : Nat} (h : n ≤ 1048576) : n ≤ maxLen := Nat.le_trans h (by decide)
theorem lt_maxLen {n : Nat} (h : n ≤ maxLen) : n ≤ 9223372036854775807 := maxLen_eq ▸ h

/-- What the table says of a slice type and its elements. -/
structure Elem (P : Program) (t e : TypeId) (size bytes : Nat) : Prop where
  under : P.underlying t = some (.slice e)
  info : ∃ i z, P.info? e = some i ∧ i.zero = some z ∧ i.size = size ∧ i.bytes = bytes ∧ z.cells.size = size
  pos : 0 < size
  bpos : 0 < bytes

theorem run_firstCells_nil {P : Program} (w : World) (size n c : Nat) : (Builtin.firstCells size 0 (.slice none n c)).run P w = .ok #[] w := by
  simp [Builtin.firstCells]

theorem run_append_nil {P : Program} {w : World} (base : Nat) (t ty e : TypeId) (i : TypeInfo) (size : Nat) (ht : P.underlying t = some (.slice e)) (hi : P.info? e = some i)
    (v : Value) (n c : Nat) (xs : List Value) (hown : w.ownsRow base e size v n xs) :
    (Builtin.append_ #[t, t] ty #[v, .slice none 0 c]).run P w = .ok v w := by
  rcases hown.2 with ⟨rfl, rfl⟩ | ⟨g, cap, cur, rfl, _, _, hnc, _⟩
  · simp [Builtin.append_, run_underlying ht, sizeOf, typeInfo, hi, Builtin.lenOf, Builtin.firstCells]
  · simp [Builtin.append_, run_underlying ht, sizeOf, typeInfo, hi, Builtin.lenOf, Builtin.firstCells, hnc, storeCells]

theorem own_slice {w : World} {base : Nat} {e : TypeId} {size : Nat} {v : Value} {n : Nat} {xs : List Value} (h : w.ownsRow base e size v n xs) :
    ∃ a c, v = .slice a n c ∧ n ≤ c ∧ c ≤ maxLen ∧ (a = none → c = 0) := by
  rcases h.2 with ⟨rfl, rfl⟩ | ⟨g, cap, cur, rfl, _, _, hnc, hm, _⟩
  · exact ⟨none, 0, rfl, Nat.le_refl _, Nat.zero_le _, fun _ => rfl⟩
  · exact ⟨_, cap, rfl, hnc, hm, fun h => by simp at h⟩

theorem own_row {w : World} {base : Nat} {e : TypeId} {size : Nat} {a : Option Addr} {n c : Nat} {xs : List Value} (h : w.ownsRow base e size (.slice a n c) n xs) : Row w a xs := by
  obtain ⟨hl, h⟩ := h
  rcases h with ⟨hv, rfl⟩ | ⟨g, cap, cur, hv, _, hg, hnc, hm, hs, ht⟩
  · exact .inl (List.eq_nil_of_length_eq_zero (by simpa using hl))
  · simp only [Value.slice.injEq] at hv
    obtain ⟨rfl, _, rfl⟩ := hv
    refine .inr ⟨g, 0, rfl, fun i hi => ?_⟩
    subst ht
    have hi2 : i < n * size := by simp at hi; omega
    have h2 : n * size ≤ cur.size := by rw [hs]; exact Nat.mul_le_mul_right _ hnc
    simp only [World.cell?, hg, Nat.zero_add, Option.isSome_none, Bool.false_eq_true, if_false]
    rw [Array.getElem?_eq_getElem (by omega)]
    simp

theorem wpList_app {P : Program} {w : World} {ops : Array Oper} {rest : List Oper} {o : Oper} {a : Act} {Q : Exit → Act → World → Prop} {t e : TypeId} {size bytes : Nat} (el : Elem P t e size bytes) (hgd : o.guard = none) (s x : Operand)
    (ho : o.op = .call { callee := .builtin .append, args := #[s, x], argTypes := #[t, t] })
    (base : Nat) (v : Value) (n : Nat) (xs : List Value) (hs : a.eval s = v) (hown : w.ownsRow base e size v n xs)
    (ad : Option Addr) (m c : Nat) (news : List Value) (hx : a.eval x = .slice ad m c) (hl : news.length = m * size) (hr : Row w ad news) (h1 : ∀ u ∈ news, u.oneCell' = true)
    (hbytes : (n + m) * bytes ≤ 140737488355328) (hbase : base ≤ w.heap.size)
    (h : ∀ a' c' w', w'.ownsRow base e size (.slice a' (n + m) c') (n + m) (xs ++ news) → w.grownBy w' v.ownBlock → wpList P ops Q rest (a.put o.dst (.slice a' (n + m) c')) w') : wpList P ops Q (o :: rest) a w := by
  obtain ⟨i, z, hi, hz, hsize, hby, hzs⟩ := el.info
  have hb := el.bpos
  have h63 : n + m ≤ maxLen := by
    have : n + m ≤ (n + m) * bytes := Nat.le_mul_of_pos_right _ hb
    unfold maxLen; omega
  cases ad with
  | some ad =>
    refine wpList_append_own w hgd s x t ho base e i z size bytes el.under hi hz hsize hby hzs el.pos v n xs hs hown ad m c news hx hl ?_ h1 h63 hbytes hbase ?_
    · intro j u hj
      rcases hr with rfl | ⟨b, o, ha, hc⟩
      · simp at hj
      · simp only [Option.some.injEq] at ha
        subst ha
        obtain ⟨hj1, rfl⟩ := List.getElem?_eq_some_iff.1 hj
        have := hc j hj1
        by_cases h0 : j = 0
        · subst h0; simpa [Addr.add] using this
        · simpa [Addr.add, h0] using this
    · intro v' w' ho' hg' _
      obtain ⟨a', c', rfl, _⟩ := own_slice ho'
      exact h a' c' w' ho' hg'
  | none =>
    rcases hr with rfl | ⟨b, o, ha, hc⟩
    · have hm : m = 0 := by
        have hp := el.pos
        rcases Nat.eq_zero_or_pos m with h | h
        · exact h
        · have := Nat.mul_pos h hp
          simp at hl
          omega
      subst hm
      refine wpList_plain hgd fun K hK => ?_
      unfold Oper.wp execOp
      have hrun2 := run_append_nil (P := P) (w := w) base t o.type e i size el.under hi v n c xs hown
      simp only [ho, resolve, invoke, builtin, Sem.run_bind, Sem.run_pure, Result.andThen_ok, List.map_toArray, List.map_cons, List.map_nil, hs, hx, hrun2]
      obtain ⟨a', c', rfl, _⟩ := own_slice hown
      refine hK _ _ (h a' c' w ?_ ⟨rfl, rfl, rfl, Nat.le_refl _, fun _ _ _ => rfl⟩)
      rw [Nat.add_zero, List.append_nil]
      exact hown
    · simp at ha

theorem Row.lt {w : World} {b o : Nat} {xs : List Value} (h : Row w (some ⟨b, o, none⟩) xs) (h0 : xs ≠ []) : b < w.heap.size := by
  rcases h with h | ⟨b', o', ha, hc⟩
  · exact absurd h h0
  · simp at ha
    obtain ⟨rfl, rfl⟩ := ha
    exact World.block_lt_of_cell? w _ (hc 0 (List.length_pos_iff.2 h0))
theorem Row.get {w : World} {a : Option Addr} {xs : List Value} {k : Nat} {x : Value} (h : Row w a xs) (hk : xs[k]? = some x) :
    ∃ b o, a = some ⟨b, o, none⟩ ∧ w.cell? ⟨b, o + k, none⟩ = some x := by
  obtain ⟨hlt, rfl⟩ := List.getElem?_eq_some_iff.1 hk
  obtain ⟨b, o, rfl, hc⟩ := h.at hlt
  exact ⟨b, o, rfl, hc k hlt⟩
/-- What is read stays where no old block has turned. -/
theorem Row.below {w w' : World} {a : Option Addr} {xs : List Value} (h : Row w a xs) (hb : Below w.heap.size w w') : Row w' a xs := by
  by_cases h0 : xs = []
  · exact .inl h0
  · rcases h with h | ⟨b, o, rfl, hc⟩
    · exact absurd h h0
    · have hlt := Row.lt (.inr ⟨b, o, rfl, hc⟩) h0
      exact .inr ⟨b, o, rfl, fun i hi => (hb.cell (p := ⟨b, o + i, none⟩) hlt).trans (hc i hi)⟩
theorem Row.getBelow {w : World} {a : Option Addr} {xs : List Value} {k : Nat} {x : Value} (h : Row w a xs) (hk : xs[k]? = some x) :
    ∃ b o, a = some ⟨b, o, none⟩ ∧ ∀ w', Below w.heap.size w w' → w'.cell? ⟨b, o + k, none⟩ = some x := by
  obtain ⟨b, o, rfl, hc⟩ := h.get hk
  exact ⟨b, o, rfl, fun w' hb => (hb.cell (p := ⟨b, o + k, none⟩) (World.block_lt_of_cell? w _ hc)).trans hc⟩
theorem Below.app {B0 : Nat} {w0 w w' : World} {e : TypeId} {size n : Nat} {v : Value} {xs : List Value} (h : Below B0 w0 w) (hown : w.ownsRow B0 e size v n xs) (hg : w.grownBy w' v.ownBlock) (hB : B0 ≤ w.heap.size) : Below B0 w0 w' :=
  h.grown hg hB fun k hk => (hown.lt k hk).1
theorem flatMap_at {α : Type} {cells : α → List Value} {size : Nat} (hs : ∀ x, (cells x).length = size) : ∀ {xs : List α} {i r : Nat}, r < size → (xs.flatMap cells)[i * size + r]? = (xs[i]?).bind fun x => (cells x)[r]?
  | [], i, r, _ => by simp
  | x :: xs, 0, r, hr => by
    simp only [List.flatMap_cons, Nat.zero_mul, Nat.zero_add, List.getElem?_cons_zero, Option.bind_some]
    rw [List.getElem?_append_left (by rw [hs]; exact hr)]
  | x :: xs, i + 1, r, hr => by
    simp only [List.flatMap_cons, List.getElem?_cons_succ]
    rw [List.getElem?_append_right (by rw [hs, Nat.succ_mul]; omega), hs, Nat.succ_mul, show i * size + size + r - size = i * size + r from by omega]
    exact flatMap_at hs hr
theorem flatMap_one {α β : Type} (f : α → β) (xs : List α) : xs.flatMap (fun x => [f x]) = xs.map f := by
  induction xs with
  | nil => rfl
  | cons x xs ih => rw [List.flatMap_cons, ih]; rfl
theorem flatMap_len {α : Type} {cells : α → List Value} {size : Nat} (hs : ∀ x, (cells x).length = size) (xs : List α) : (xs.flatMap cells).length = xs.length * size := by
  induction xs with
  | nil => simp
  | cons x xs ih => rw [List.flatMap_cons, List.length_append, ih, hs, List.length_cons, Nat.succ_mul]; omega
end Go.Proofs.Ytmlpgpopaakjbaa
