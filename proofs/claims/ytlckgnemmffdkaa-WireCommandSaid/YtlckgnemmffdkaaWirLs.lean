/- A list that is read: what stands behind each thing. -/
import Derived.Test.YtlckgnemmffdkaaWirEnt
namespace Go.Proofs.Ytlckgnemmffdkaa
open Go.ChangeShapes Go.WideShapes Go.ChangeAt Go.RowKit
set_option maxRecDepth 100000

theorem List.set_getElem_self' {α : Type} {l : List α} {i : Nat} {v : α} (h : l[i]? = some v) : l.set i v = l := by
  obtain ⟨h1, h2⟩ := List.getElem?_eq_some_iff.1 h
  subst h2
  exact List.set_getElem_self h1
/-- A list's things so far, its variable, the reader. -/
structure Ls (w w' : World) (g gx ox : Nat) (a : Option Addr) (c : Nat) (bs : List UInt8) (q : Nat) (cs : List Value) (T : TypeId) (size : Nat) (a1 : Option Addr) (n c1 : Nat) (xs : List Value) : Prop where
  cr : Cr w' g a c bs q
  turn : Turn g gx w w'
  box : Box w' gx (cs.set ox (.slice a1 n c1))
  can : Can w' w.heap.size T size a1 n c1 xs
  far : ∀ b o s, a1 = some ⟨b, o, s⟩ → w.heap.size ≤ b ∧ b < w'.heap.size
  gl : g < w.heap.size
  xl : gx < w.heap.size
  off : Off g (rowA a bs) gx
  ox : ox < cs.length
theorem Ls.one {w wr w2 : World} {o : Obj} {g gx ox c q q' T size n c1 : Nat} {a a1 : Option Addr} {bs : List UInt8} {cs xs : List Value} (h : Ls w wr g gx ox a c bs q cs T size a1 n c1 xs) (ht : Turn g wr.heap.size (wr.alloc o) w2) (hc : Cr w2 g a c bs q') : Ls w w2 g gx ox a c bs q' cs T size a1 n c1 xs := by
  have hs := h.turn.size
  have hg := h.gl
  have hx := h.xl
  have hsz : (wr.alloc o).heap.size = wr.heap.size + 1 := by simp
  have hts := ht.size
  have hm : Mid w.heap.size wr.heap.size wr w2 := ⟨by omega, fun k h1 h2 => by
    rw [ht.block k (by omega) (by omega)]
    exact heap_alloc_old _ _ h2⟩
  refine ⟨hc, ?_, ?_, can_mid h.can hm (fun b o s e => .inl (h.far b o s e).1) (Nat.le_refl _) (Nat.le_refl _), fun b o s e => ⟨(h.far b o s e).1, by have := (h.far b o s e).2; omega⟩, hg, hx, h.off, h.ox⟩
  · exact Keep.trans (h.turn.next (Turn.below (mid_alloc' (Below.refl _ _)))) (ht.mono fun k _ e => by rcases e with e | e | e; exact .inl e; exact .inr (.inr (by omega)); exact .inr (.inr (by omega)))
  · have h1 : Box (wr.alloc o) gx (cs.set ox (.slice a1 n c1)) := h.box.next (by rw [List.length_set]; have := h.ox; omega) (mid_alloc' (Below.refl _ _))
    exact h1.keep (by rw [List.length_set]; have := h.ox; omega) ht (by have := h.off.ne; omega)
theorem Ls.push {w w2 W0 w3 : World} {g gx ox c q T size n c1 c2 : Nat} {a a1 a2 : Option Addr} {bs : List UInt8} {cs xs ns : List Value} (h : Ls w w2 g gx ox a c bs q cs T size a1 n c1 xs) (hb : Below w2.heap.size w2 W0)
    (hcan : Can w3 w.heap.size T size a2 (n + 1) c2 (xs ++ ns)) (hg : W0.grownBy w3 (Value.slice a1 n c1).ownBlock) (hown : ∀ b o s, a2 = some ⟨b, o, s⟩ → w.heap.size ≤ b) (hlt : ∀ b o s, a2 = some ⟨b, o, s⟩ → b < w3.heap.size) :
    Ls w (w3.setCell ⟨gx, ox, none⟩ (.slice a2 (n + 1) c2)) g gx ox a c bs q cs T size a2 (n + 1) c2 (xs ++ ns) ∧ Box w3 gx (cs.set ox (.slice a1 n c1)) ∧ (∀ k, k < w2.heap.size → (∀ o s, a1 ≠ some ⟨k, o, s⟩) → w3.heap[k]? = w2.heap[k]?) := by
  have hs := h.turn.size
  have hgl := h.gl
  have hx := h.xl
  have ow : ∀ k, (∀ o s, a1 ≠ some ⟨k, o, s⟩) → some k ≠ (Value.slice a1 n c1).ownBlock := fun k hk e => by
    cases a1 with
    | none => simp [Value.ownBlock] at e
    | some ad =>
      obtain ⟨y, u, v⟩ := ad
      simp [Value.ownBlock] at e
      subst e
      exact hk u v rfl
  have hkeep : ∀ k, k < w2.heap.size → (∀ o s, a1 ≠ some ⟨k, o, s⟩) → w3.heap[k]? = w2.heap[k]? := fun k hk hne => by
    rw [hg.block k (Nat.lt_of_lt_of_le hk hb.size) (ow k hne), hb.block k hk]
  have hks : Keep (fun k => w.heap.size ≤ k) w2 w3 := ⟨hg.os.trans hb.os, hg.tape.trans hb.tape, hg.output.trans hb.output, Nat.le_trans hb.size hg.size, fun k hk hn => hkeep k hk (fun o s e => hn (h.far k o s e).1)⟩
  have hlen : 0 < (cs.set ox (.slice a1 n c1)).length := by rw [List.length_set]; have := h.ox; omega
  have hbx : Box w3 gx (cs.set ox (.slice a1 n c1)) := h.box.keep hlen hks (by omega)
  have hoffk : ∀ k, w.heap.size ≤ k → Off g (rowA a bs) k := fun k hk => ⟨by omega, fun o s e => by have := h.cr.low k o s e; omega⟩
  have hset := hbx.set (i := ox) (by rw [List.length_set]; exact h.ox) (.slice a2 (n + 1) c2)
  rw [List.set_set] at hset
  refine ⟨⟨(h.cr.keep hks hoffk).keep ((Keep.refl (fun k => k = gx) _).set _ _ rfl) (fun k e => by subst e; exact h.off), ?_, hset, ?_, fun b o s e => ⟨hown b o s e, by have := hlt b o s e; simpa using this⟩, hgl, hx, h.off, h.ox⟩, hbx, hkeep⟩
  · exact (Keep.trans h.turn (hks.mono fun k _ e => .inr (.inr e))).set _ _ (.inr (.inl rfl))
  · exact can_mid hcan ((Mid.refl w.heap.size w3.heap.size w3).setCell ⟨gx, ox, none⟩ _ (.inl hx)) (fun b o s e => .inl (hown b o s e)) (Nat.le_refl _) (Nat.le_refl _)
end Go.Proofs.Ytlckgnemmffdkaa
