/- Maps of the call's own whose elements are ints, as functions of their keys, whatever the keys' type. -/
import Derived.Test.YtnebibflmlgbbaaBase
import Derived.Maps.OwnOps
import Derived.Maps.OwnSet
import Derived.WideKeyPair
import Derived.DeepKeys4
namespace Go.Proofs.Ytnebibflmlgbbaa
open Go.ChangeShapes Go.WideShapes Go.ChangeAt Go.RowKit Go.Maps

structure KeyKind (P : Program) (k : TypeId) (κ : Type) where
  keyed : Keyed P k
  enc : κ → Value
  kl : κ → Lit
  good : κ → Prop
  key : ∀ x, good x → keyOf P k (enc x) = some (kl x)
  inj : ∀ x y, enc x = enc y → x = y

section
variable {P : Program} {k e : TypeId} {κ : Type} {K : KeyKind P k κ}
theorem KeyKind.same (K : KeyKind P k κ) {x y : κ} (hx : K.good x) (hy : K.good y) (h : K.kl x = K.kl y) : x = y :=
  K.inj x y (K.keyed.inj (K.key x hx) (by rw [K.key y hy, h]))
theorem KeyKind.isKey (K : KeyKind P k κ) {x : κ} (hx : K.good x) : WideAt.IsKeyLit (K.kl x) := K.keyed.key (K.key x hx)

/-- The block is a map that reads as the function. -/
def MapI (K : KeyKind P k κ) (e : TypeId) (w : World) (b n : Nat) (f : κ → Option Int) : Prop :=
  ∃ D : DataW Unit, w.ownsMap P k (plainElem P e) b n D ∧ ∀ x, K.good x → D.atKey (K.kl x) (.lit (.int .i64 0)) = .lit (.int .i64 ((f x).getD 0)) ∧ Maps.has D (K.kl x) = (f x).isSome
def upd [DecidableEq κ] (f : κ → Option Int) (x : κ) (z : Int) : κ → Option Int := fun y => if y = x then some z else f y

theorem MapI.made (w : World) : MapI K e (w.alloc (.map #[] 0)) w.heap.size 0 (fun _ => none) :=
  ⟨.map [], World.ownsMap_made _ _ _ _, fun _ _ => ⟨rfl, rfl⟩⟩
theorem MapI.below {w w' : World} {b n B : Nat} {f : κ → Option Int} (h : MapI K e w b n f) (hb : Below B w w') (hB : b < B) : MapI K e w' b n f := by
  obtain ⟨D, ⟨es, clock, h1, h2⟩, hf⟩ := h
  exact ⟨D, ⟨es, clock, by rw [hb.block b hB]; exact h1, h2⟩, hf⟩
theorem MapI.lt {w : World} {b n : Nat} {f : κ → Option Int} (h : MapI K e w b n f) : b < w.heap.size := by
  obtain ⟨D, ⟨es, clock, h1, _⟩, _⟩ := h
  exact (Array.getElem?_eq_some_iff.1 h1).1
theorem MapI.mono {w : World} {b n m : Nat} {f : κ → Option Int} (h : MapI K e w b n f) (hn : n ≤ m) : MapI K e w b m f :=
  let ⟨D, h1, h2⟩ := h; ⟨D, h1.mono hn, h2⟩
theorem MapI.setFar {w : World} {b n : Nat} {f : κ → Option Int} (h : MapI K e w b n f) {p : Addr} (hp : p.block ≠ b) (v : Value) : MapI K e (w.setCell p v) b n f := by
  obtain ⟨D, ⟨es, clock, h1, h2⟩, hf⟩ := h
  exact ⟨D, ⟨es, clock, by rw [Below.heap_setCell _ _ _ _ (fun h => hp h.symm)]; exact h1, h2⟩, hf⟩
theorem MapI.alloc {w : World} {b n : Nat} {f : κ → Option Int} (h : MapI K e w b n f) (o : Obj) : MapI K e (w.alloc o) b n f :=
  h.below ((Below.refl w.heap.size w).alloc (Nat.le_refl _) o) h.lt

theorem MapI.grown {w w' : World} {b n b0 : Nat} {f : κ → Option Int} (h : MapI K e w b n f) (hg : w.grownBy w' (some b0)) (hne : b ≠ b0) : MapI K e w' b n f := by
  have hlt := h.lt
  obtain ⟨D, ⟨es, clock, h1, h2⟩, hf⟩ := h
  exact ⟨D, ⟨es, clock, by rw [hg.block b hlt (by simp; omega)]; exact h1, h2⟩, hf⟩
theorem MapI.rowFar {w w' : World} {b n : Nat} {f : κ → Option Int} (h : MapI K e w b n f) (hg : w.grownBy w' (some b)) {a : Option Addr} {xs : List Value} (hr : Row w a xs) : Row w' a xs := by
  by_cases h0 : xs = []
  · exact .inl h0
  · rcases hr with hr | ⟨g, o, rfl, hc⟩
    · exact absurd hr h0
    · have hlt := Row.lt (.inr ⟨g, o, rfl, hc⟩) h0
      have hne : g ≠ b := by
        rintro rfl
        obtain ⟨D, ⟨es, clock, h1, _⟩, _⟩ := h
        have := hc 0 (List.length_pos_iff.2 h0)
        simp [World.cell?, h1] at this
      exact .inr ⟨g, o, rfl, fun i hi => by
        rw [World.cell?_of_block (w := w) (hg.block g hlt (by simp; omega))]; exact hc i hi⟩
theorem Below.grownMore {w0 w w' : World} {b : Nat} (h : Below w0.heap.size w0 w) (hg : w.grownBy w' (some b)) (hb : w0.heap.size ≤ b) : Below w0.heap.size w0 w' :=
  h.grown hg h.size (fun k hk => by cases hk; exact hb)
theorem wpList_putI [DecidableEq κ] {w : World} {ops : Array Oper} {rest : List Oper} {o : Oper} {a : Act} {Q : Exit → Act → World → Prop} (K : KeyKind P k κ) {t : TypeId} (ht : P.underlying t = some (.map k e)) (he : P.underlying e = some (.int .i64)) (hg : o.guard = none)
    (m x v : Operand) (hop : o.op = Op.mapUpdate t m x v) (b n : Nat) (f : κ → Option Int) (hm : a.eval m = .map (some b)) (hown : MapI K e w b n f) (hn : n < maxLen) (y : κ) (hy : K.good y) (hx : a.eval x = K.enc y) (z : Int) (hv : a.eval v = .int .i64 z)
    (hz : (Lit.int .i64 z).wf = true) (h : ∀ w', MapI K e w' b (n + 1) (upd f y z) → w.grownBy w' (some b) → wpList P ops Q rest (a.put o.dst undef) w') : wpList P ops Q (o :: rest) a w := by
  obtain ⟨D, hD, hf⟩ := hown
  refine wpList_mapUpdate_own w hg m x v t hop k e K.keyed ht (plainElem P e) b n D hm hD hn _ _ (K.kl y) hx hv (K.key y hy) (.lit (.int .i64 z)) [] (plainElem_int he hz) ?_
  intro w' hD' hg'
  refine h w' ⟨_, hD', fun y' hy' => ?_⟩ hg'
  have hmap : IsMap D := by
    obtain ⟨es, clock, _, _, _, rfl⟩ := hD
    exact ⟨_, rfl⟩
  unfold upd
  by_cases e : y' = y
  · subst e
    rw [if_pos rfl]
    exact ⟨atKey_put_same hmap (K.isKey hy) _ _, has_put_same hmap (K.isKey hy) _⟩
  · have hne : K.kl y' ≠ K.kl y := fun h => e (K.same hy' hy h)
    rw [if_neg e, atKey_put_other hne, has_put_other hne]
    exact hf y' hy'
theorem wpList_getOkI {w : World} {ops : Array Oper} {rest : List Oper} {o : Oper} {a : Act} {Q : Exit → Act → World → Prop} (K : KeyKind P k κ) {t : TypeId} (ht : P.underlying t = some (.map k e)) (he : P.underlying e = some (.int .i64)) (hz : ∀ w, (zeroValue e).run P w = .ok (.int .i64 0) w) (hg : o.guard = none)
    (m x : Operand) (hop : o.op = Op.lookup t m x true) (b n : Nat) (f : κ → Option Int) (hm : a.eval m = .map (some b)) (hown : MapI K e w b n f) (y : κ) (hy : K.good y) (hx : a.eval x = K.enc y)
    (h : wpList P ops Q rest (a.put o.dst (.tuple #[.int .i64 ((f y).getD 0), .bool (f y).isSome])) w) : wpList P ops Q (o :: rest) a w := by
  obtain ⟨D, hD, hf⟩ := hown
  obtain ⟨h1, h2⟩ := hf y hy
  refine wpList_lookup_own_ok_int w hg m x t hop k e .i64 K.keyed ht he (hz w) b n D hm hD _ (K.kl y) hx (K.key y hy) ?_
  intro c hc _
  rw [h1] at hc
  simp only [DataW.lit.injEq, Lit.int.injEq, true_and] at hc
  rw [h2, ← hc]
  exact h
theorem wpList_getI {w : World} {ops : Array Oper} {rest : List Oper} {o : Oper} {a : Act} {Q : Exit → Act → World → Prop} (K : KeyKind P k κ) {t : TypeId} (ht : P.underlying t = some (.map k e)) (he : P.underlying e = some (.int .i64)) (hz : ∀ w, (zeroValue e).run P w = .ok (.int .i64 0) w) (hg : o.guard = none)
    (m x : Operand) (hop : o.op = Op.lookup t m x false) (b n : Nat) (f : κ → Option Int) (hm : a.eval m = .map (some b)) (hown : MapI K e w b n f) (y : κ) (hy : K.good y) (hx : a.eval x = K.enc y)
    (h : wpList P ops Q rest (a.put o.dst (.int .i64 ((f y).getD 0))) w) : wpList P ops Q (o :: rest) a w := by
  obtain ⟨D, hD, hf⟩ := hown
  obtain ⟨h1, _⟩ := hf y hy
  refine wpList_lookup_own_int w hg m x t hop k e .i64 K.keyed ht he (hz w) b n D hm hD _ (K.kl y) hx (K.key y hy) ?_
  intro c hc _
  rw [h1] at hc
  simp only [DataW.lit.injEq, Lit.int.injEq, true_and] at hc
  rw [← hc]
  exact h
end

theorem keyOf_struct1 {P : Program} {k e : TypeId} {q : IntKind} {f : Field} (hu : P.underlying k = some (.struct #[f])) (hf : f.type = e) (ho : f.offset = 0) (hn : (f.name != "_") = true) (h1 : P.cellsOf k = 1) (h2 : P.cellsOf e = 1) (hkt : P.keyType k = true) (he : P.underlying e = some (.int q)) (hsz : ∃ m, P.types.size = m + 1) {a : Int} (wa : (Lit.int q a).wf = true) :
    keyOf P k (.agg #[.int q a]) = some (.string (keyBytes [.int q a])) := by
  obtain ⟨m, hm⟩ := hsz
  unfold keyOf
  simp only [hu]
  rw [if_pos (by simp [hkt, Value.formed, hu, h1]), hm]
  unfold Program.keyLits
  simp only [hu, Value.cells]
  rw [if_pos (by simp [h1, hn])]
  simp [hf, ho, h2, Program.keyLits, he, wa]
/-- Ints as keys. -/
def intKey {P : Program} {k : TypeId} (hu : P.underlying k = some (.int .i64)) : KeyKind P k Int where
  keyed := int_keyed hu
  enc n := .int .i64 n
  kl n := .int .i64 n
  good n := (Lit.int .i64 n).wf = true
  key _ h := keyOf_int_mk hu h
  inj _ _ h := by simpa using h
end Go.Proofs.Ytnebibflmlgbbaa
