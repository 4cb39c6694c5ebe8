/- A writer of bytes: what it holds, what becomes of the world. -/
import Derived.Test.YtlckgnemmffdkaaWirFour
import Derived.Test.YtlckgnemmffdkaaBx
import Derived.Deep.DeepAppendRoom
namespace Go.Proofs.Ytlckgnemmffdkaa
open Go.ChangeShapes Go.WideShapes Go.ChangeAt Go.RowKit
set_option maxRecDepth 100000

/-- Where an append's row lies: in a new block, or where it lay. -/
theorem can_near {P : Program} {w : World} {t e : TypeId} {size bytes : Nat} (el : Elem P t e size bytes) (ty : TypeId) (D : Nat) (a : Option Addr) (n c : Nat) (xs : List Value) (hcan : Can w D e size a n c xs)
    (ad : Option Addr) (m k : Nat) (news : List Value) (hl : news.length = m * size) (hr : Row w ad news) (h1 : ∀ u ∈ news, u.oneCell' = true) (hbytes : (n + m) * bytes ≤ 140737488355328) (hm : 0 < m)
    {a' : Option Addr} {c' : Nat} {w' : World} (hrun : (Builtin.append_ #[t, t] ty #[.slice a n c, .slice ad m k]).run P w = .ok (.slice a' (n + m) c') w') : Near w.heap.size a a' := by
  obtain ⟨i, z, hi, hz, hsize, hby, hzs⟩ := el.info
  have hp := el.pos
  have hb := el.bpos
  subst hsize
  subst hby
  have h63 : n + m ≤ 9223372036854775807 := by
    have : n + m ≤ (n + m) * i.bytes := Nat.le_mul_of_pos_right _ hb
    omega
  obtain ⟨ad', rfl⟩ : ∃ x, ad = some x := by
    cases ad with
    | some x => exact ⟨x, rfl⟩
    | none =>
      rcases hr with rfl | ⟨_, _, h, _⟩
      · rw [List.length_nil] at hl
        have := Nat.mul_pos hm hp
        omega
      · cases h
  have hnews := hr.holds
  cases a with
  | none =>
    have hc0 : c = 0 := hcan.none hp rfl
    have hn0 : n = 0 := by have := hcan.le; omega
    subst hc0
    subst hn0
    have h2 := Go.run_append_nil (P := P) w t ty e i z el.under hi hz ad' m k news hl hnews hm (by omega) (by have h3 := hbytes; rw [Nat.zero_add] at h3; omega)
    rw [h2] at hrun
    simp only [Result.ok.injEq, Value.slice.injEq] at hrun
    intro b o s hs
    rw [← hrun.1.1] at hs
    simp only [Option.some.injEq, Addr.mk.injEq] at hs
    left; omega
  | some x =>
    by_cases hroom : n + m ≤ c
    · rcases hcan.2.2 with ⟨h3, _⟩ | hown
      · omega
      · rcases hown.2 with ⟨h0, _⟩ | ⟨g', cap', cur, hv, _⟩
        · cases h0
        · simp only [Value.slice.injEq] at hv
          obtain ⟨hx, -, -⟩ := hv
          simp only [Option.some.injEq] at hx
          subst hx
          obtain ⟨w2, h2, -, -⟩ := run_append_own_spare (P := P) w D t ty e i i.size el.under hi rfl g' n c xs hown ad' m k news hl hnews h1 hroom
          rw [h2] at hrun
          simp only [Result.ok.injEq, Value.slice.injEq] at hrun
          rw [← hrun.1.1]
          exact Near.self _ _
    · have h2 := run_append_grow (P := P) w t ty e i z el.under hi hz x n c xs hcan.1 hcan.row.holds ad' m k news hl hnews (by omega) (by omega) (growslice_fits (by omega) hbytes)
      rw [h2] at hrun
      simp only [Result.ok.injEq, Value.slice.injEq] at hrun
      intro b o s hs
      rw [← hrun.1.1] at hs
      simp only [Option.some.injEq, Addr.mk.injEq] at hs
      left; omega
/-- What is there already, stored anew. -/
theorem setCell_id {w : World} {b o : Nat} {v : Value} (h : w.cell? ⟨b, o, none⟩ = some v) : w.setCell ⟨b, o, none⟩ v = w := by
  have hh : (w.setCell ⟨b, o, none⟩ v).heap = w.heap := by
    refine Array.ext_getElem? fun k => ?_
    unfold World.setCell
    simp only [Array.getElem?_modify]
    by_cases hk : b = k
    · subst hk
      rw [if_pos rfl]
      cases hb : w.heap[b]? with
      | none => rfl
      | some ob =>
        unfold World.cell? at h
        rw [hb] at h
        cases ob with
        | cells c e fr =>
          simp at h
          obtain ⟨h1, h2⟩ := Array.getElem?_eq_some_iff.1 h
          simp only [Option.map_some, Option.isSome_none, Bool.false_eq_true, if_false]
          congr 2
          refine Array.ext_getElem? fun j => ?_
          rw [Array.getElem?_setIfInBounds]
          split
          · rename_i hj; subst hj; exact h.symm
          · rfl
        | _ => simp at h
    · rw [if_neg hk]
  cases w
  simp only [World.setCell] at hh ⊢
  rw [hh]
/-- The writer at g holds the bytes; its row is its own, in blocks from D on, behind g. -/
structure Cw (w : World) (D g : Nat) (a : Option Addr) (c : Nat) (bs : List UInt8) : Prop where
  box : Box w g [.slice a bs.length c, .int .i64 0, .bool false]
  can : Can w D 5 1 a bs.length c (bs.map B)
  far : ∀ b o s, a = some ⟨b, o, s⟩ → D ≤ b
  low : g < D
  lt : ∀ b o s, a = some ⟨b, o, s⟩ → b < w.heap.size
/-- A row of one's own lies in a block that is there. -/
theorem own_lt {w : World} {D : Nat} {e : TypeId} {size n c : Nat} {a : Option Addr} {xs : List Value} (h : w.ownsRow D e size (.slice a n c) n xs) : ∀ b o s, a = some ⟨b, o, s⟩ → b < w.heap.size := fun b o s ha => by
  rcases h.2 with ⟨h0, _⟩ | ⟨g', cap', cur, hv, _, hg, _⟩
  · simp only [Value.slice.injEq] at h0
    rw [ha] at h0
    cases h0.1
  · simp only [Value.slice.injEq] at hv
    rw [ha] at hv
    have h1 := hv.1
    simp only [Option.some.injEq, Addr.mk.injEq] at h1
    rw [h1.1]
    exact (Array.getElem?_eq_some_iff.1 hg).1
theorem Cw.below {w w' : World} {D g c : Nat} {a : Option Addr} {bs : List UInt8} (h : Cw w D g a c bs) (hb : Below w.heap.size w w') : Cw w' D g a c bs :=
  ⟨h.box.next (by simp) hb, can_mid h.can (Mid.below hb (Nat.le_refl _) : Mid D w.heap.size w w') (fun b o s e => .inl (h.far b o s e)) (Nat.le_refl _) (Nat.le_refl _), h.far, h.low, fun b o s e => Nat.lt_of_lt_of_le (h.lt b o s e) hb.size⟩
/-- A variable just laid is not the writer's. -/
theorem Cw.new {w : World} {D g c : Nat} {a : Option Addr} {bs : List UInt8} (h : Cw w D g a c bs) : w.heap.size ≠ g ∧ ∀ o s, a ≠ some ⟨w.heap.size, o, s⟩ := by
  have := h.box.lt (by simp)
  exact ⟨by omega, fun o s e => by have := h.lt _ o s e; omega⟩
/-- Of the blocks that stood, the writer's and its row's alone have turned. -/
structure Grew (g : Nat) (a a' : Option Addr) (w w' : World) : Prop where
  os : w'.os = w.os
  tape : w'.tape = w.tape
  output : w'.output = w.output
  size : w.heap.size ≤ w'.heap.size
  keep : ∀ k, k < w.heap.size → k ≠ g → (∀ o s, a ≠ some ⟨k, o, s⟩) → w'.heap[k]? = w.heap[k]?
  near : Near w.heap.size a a'
theorem Grew.refl (g : Nat) (a : Option Addr) (w : World) : Grew g a a w w := ⟨rfl, rfl, rfl, Nat.le_refl _, fun _ _ _ _ => rfl, Near.self _ _⟩
theorem Grew.trans {g : Nat} {a a' a'' : Option Addr} {w w' w'' : World} (h : Grew g a a' w w') (h2 : Grew g a' a'' w' w'') : Grew g a a'' w w'' :=
  ⟨h2.os.trans h.os, h2.tape.trans h.tape, h2.output.trans h.output, Nat.le_trans h.size h2.size, fun k hk hg ha => by
    rw [h2.keep k (Nat.lt_of_lt_of_le hk h.size) hg (fun o s e => by
      rcases h.near k o s e with h1 | ⟨o', s', h1⟩
      · omega
      · exact ha o' s' h1)]
    exact h.keep k hk hg ha, fun b o s e => by
    rcases h2.near b o s e with h1 | ⟨o', s', h1⟩
    · exact .inl (Nat.le_trans h.size h1)
    · exact h.near b o' s' h1⟩
/-- A variable that is neither the writer's nor in its row. -/
theorem Box.grew {w w' : World} {g x : Nat} {a a' : Option Addr} {cs : List Value} (h : Box w x cs) (h0 : 0 < cs.length) (hg : Grew g a a' w w') (hne : x ≠ g) (ha : ∀ o s, a ≠ some ⟨x, o, s⟩) : Box w' x cs := h.block (hg.keep x (h.lt h0) hne ha)
theorem Grew.off {w w' : World} {g x : Nat} {a a' : Option Addr} (hg : Grew g a a' w w') (hx : x < w.heap.size) (ha : ∀ o s, a ≠ some ⟨x, o, s⟩) : ∀ o s, a' ≠ some ⟨x, o, s⟩ := fun o s e => by
  rcases hg.near x o s e with h1 | ⟨o', s', h1⟩
  · omega
  · exact ha o' s' h1
/-- One append of the writer's, in a region that draws its order. -/
theorem step_near {P : Program} {w : World} {ops : Array Oper} {o : Oper} {ac : Act} {K : Act → World → Prop} {Q : Exit → Act → World → Prop} {E : Prop} {t e : TypeId} {size bytes : Nat} (el : Elem P t e size bytes) (hgd : o.guard = none) (s x : Operand)
    (ho : o.op = .call { callee := .builtin .append, args := #[s, x], argTypes := #[t, t] })
    (D : Nat) (a : Option Addr) (n c : Nat) (xs : List Value) (hs : ac.eval s = .slice a n c) (hcan : Can w D e size a n c xs)
    (ad : Option Addr) (m k : Nat) (news : List Value) (hx : ac.eval x = .slice ad m k) (hl : news.length = m * size) (hr : Row w ad news) (h1 : ∀ u ∈ news, u.oneCell' = true)
    (hbytes : (n + m) * bytes ≤ 140737488355328) (hD : D ≤ w.heap.size) (hm : 0 < m)
    (h : ∀ a' c' w', Can w' D e size a' (n + m) c' (xs ++ news) → w.grownBy w' (Value.slice a n c).ownBlock → Near w.heap.size a a' → w'.ownsRow D e size (.slice a' (n + m) c') (n + m) (xs ++ news) → K (ac.put o.dst (.slice a' (n + m) c')) w') :
    if Region.wanted o (yielded ops ac.tmps) = true then Oper.wp P o ac w K Q else E := by
  have hw : Region.wanted o (yielded ops ac.tmps) = true := by simp [Region.wanted, hgd]
  rw [if_pos hw]
  obtain ⟨a', c', w', hrun, h2, h3, h4, h5⟩ := run_can el o.type D a n c xs hcan ad m k news hl hr h1 hbytes hD
  have hn := can_near el o.type D a n c xs hcan ad m k news hl hr h1 hbytes hm hrun
  unfold Oper.wp execOp
  simp only [ho, resolve, invoke, builtin, Sem.run_bind, Sem.run_pure, Result.andThen_ok, List.map_toArray, List.map_cons, List.map_nil, hs, hx, hrun]
  exact h a' c' w' h2 h3 hn (h5.1 hm)
theorem wpList_near {P : Program} {w : World} {ops : Array Oper} {rest : List Oper} {o : Oper} {ac : Act} {Q : Exit → Act → World → Prop} {t e : TypeId} {size bytes : Nat} (el : Elem P t e size bytes) (hgd : o.guard = none) (s x : Operand)
    (ho : o.op = .call { callee := .builtin .append, args := #[s, x], argTypes := #[t, t] })
    (D : Nat) (a : Option Addr) (n c : Nat) (xs : List Value) (hs : ac.eval s = .slice a n c) (hcan : Can w D e size a n c xs)
    (ad : Option Addr) (m k : Nat) (news : List Value) (hx : ac.eval x = .slice ad m k) (hl : news.length = m * size) (hr : Row w ad news) (h1 : ∀ u ∈ news, u.oneCell' = true)
    (hbytes : (n + m) * bytes ≤ 140737488355328) (hD : D ≤ w.heap.size)
    (h : ∀ a' c' w', Can w' D e size a' (n + m) c' (xs ++ news) → w.grownBy w' (Value.slice a n c).ownBlock → Near w.heap.size a a' → wpList P ops Q rest (ac.put o.dst (.slice a' (n + m) c')) w') : wpList P ops Q (o :: rest) ac w := by
  obtain ⟨a', c', w', hrun, h2, h3, h4, h5⟩ := run_can el o.type D a n c xs hcan ad m k news hl hr h1 hbytes hD
  have hn : Near w.heap.size a a' := by
    by_cases hm : m = 0
    · rw [(h5.2 hm).1]; exact Near.self _ _
    · exact can_near el o.type D a n c xs hcan ad m k news hl hr h1 hbytes (by omega) hrun
  refine wpList_plain hgd fun K hK => ?_
  unfold Oper.wp execOp
  simp only [ho, resolve, invoke, builtin, Sem.run_bind, Sem.run_pure, Result.andThen_ok, List.map_toArray, List.map_cons, List.map_nil, hs, hx, hrun]
  exact hK _ _ (h a' c' w' h2 h3 hn)
/-- What an append and the store behind it leave. -/
theorem Cw.step {w W0 w' : World} {D g : Nat} {a a' : Option Addr} {c c' : Nat} {bs ns : List UInt8} (h : Cw w D g a c bs) (hb : Below w.heap.size w W0) (hD : D ≤ w.heap.size)
    (hcan : Can w' D 5 1 a' (bs.length + ns.length) c' (bs.map B ++ ns.map B)) (hg : W0.grownBy w' (Value.slice a bs.length c).ownBlock) (hn : Near W0.heap.size a a') (hown : ∀ b o s, a' = some ⟨b, o, s⟩ → D ≤ b) (hlt : ∀ b o s, a' = some ⟨b, o, s⟩ → b < w'.heap.size) :
    Box w' g [.slice a bs.length c, .int .i64 0, .bool false] ∧ Cw (w'.setCell ⟨g, 0, none⟩ (.slice a' (bs.length + ns.length) c')) D g a' c' (bs ++ ns) ∧ Grew g a a' w (w'.setCell ⟨g, 0, none⟩ (.slice a' (bs.length + ns.length) c')) := by
  have hga : ∀ o s, a ≠ some ⟨g, o, s⟩ := fun o s e => by have := h.far g o s e; have := h.low; omega
  have hgl := h.box.lt (by simp)
  have ow : ∀ k, (∀ o s, a ≠ some ⟨k, o, s⟩) → some k ≠ (Value.slice a bs.length c).ownBlock := fun k hk e => by
    cases a with
    | none => simp [Value.ownBlock] at e
    | some ad =>
      obtain ⟨y, u, v⟩ := ad
      simp [Value.ownBlock] at e
      subst e
      exact hk u v rfl
  have hbx0 := h.box.next (by simp) hb
  have hbx : Box w' g [.slice a bs.length c, .int .i64 0, .bool false] := hbx0.block (hg.block g (Nat.lt_of_lt_of_le hgl hb.size) (ow g hga))
  have hbs := hbx.set (i := 0) (show 0 < 3 by decide) (.slice a' (bs.length + ns.length) c')
  have hga' : ∀ o s, a' ≠ some ⟨g, o, s⟩ := fun o s e => by have := hown g o s e; have := h.low; omega
  refine ⟨hbx, ⟨by rw [List.length_append]; exact hbs, ?_, hown, h.low, fun b o s e => by simpa using hlt b o s e⟩, ⟨?_, ?_, ?_, ?_, ?_, hn.mono hb.size⟩⟩
  · rw [List.length_append, List.map_append]
    exact can_mid hcan ((Mid.refl D w'.heap.size w').setCell ⟨g, 0, none⟩ _ (.inl h.low)) (fun b o s e => .inl (hown b o s e)) (Nat.le_refl _) (Nat.le_refl _)
  · exact (hg.os.trans hb.os)
  · exact (hg.tape.trans hb.tape)
  · exact (hg.output.trans hb.output)
  · have := hg.size; have := hb.size; simp; omega
  · intro k hk hkg hka
    rw [Below.heap_setCell _ _ _ _ (fun e => hkg e), hg.block k (Nat.lt_of_lt_of_le hk hb.size) (ow k hka), hb.block k hk]
end Go.Proofs.Ytlckgnemmffdkaa
