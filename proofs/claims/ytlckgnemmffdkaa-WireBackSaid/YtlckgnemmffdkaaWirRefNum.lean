import Derived.Test.YtlckgnemmffdkaaPackWireMessage2
set_option linter.unusedVariables false
set_option linter.unusedSimpArgs false
/- The document's writer: a number, a truth, bytes behind bytes. (printed by gen_wirrefnum.py) -/
namespace Go.Proofs.Ytlckgnemmffdkaa
open Go.ChangeShapes Go.WideShapes Go.ChangeAt Go.RowKit
set_option maxRecDepth 100000

/-- Bytes that may be appended to, in blocks from D on. -/
structure Cb (w : World) (D : Nat) (a : Option Addr) (c : Nat) (bs : List UInt8) : Prop where
  can : Can w D 5 1 a bs.length c (bs.map B)
  far : ∀ b o s, a = some ⟨b, o, s⟩ → D ≤ b ∧ b < w.heap.size
theorem Cb.nil (w : World) (D : Nat) : Cb w D none 0 [] := ⟨Can.nil _ _ _ _, fun _ _ _ h => by cases h⟩
theorem Cb.below {w w' : World} {D c : Nat} {a : Option Addr} {bs : List UInt8} (h : Cb w D a c bs) (hb : Below w.heap.size w w') : Cb w' D a c bs :=
  ⟨can_mid h.can (Mid.below hb (Nat.le_refl _) : Mid D w.heap.size w w') (fun b o s e => .inl (h.far b o s e).1) (Nat.le_refl _) (Nat.le_refl _), fun b o s e => ⟨(h.far b o s e).1, Nat.lt_of_lt_of_le (h.far b o s e).2 hb.size⟩⟩
/-- Of the blocks that stood, the bytes' own alone has turned. -/
structure Gro (a a' : Option Addr) (w w' : World) : Prop where
  os : w'.os = w.os
  tape : w'.tape = w.tape
  output : w'.output = w.output
  size : w.heap.size ≤ w'.heap.size
  keep : ∀ k, k < w.heap.size → (∀ o s, a ≠ some ⟨k, o, s⟩) → w'.heap[k]? = w.heap[k]?
  near : Near w.heap.size a a'
theorem Gro.refl (a : Option Addr) (w : World) : Gro a a w w := ⟨rfl, rfl, rfl, Nat.le_refl _, fun _ _ _ => rfl, Near.self _ _⟩
theorem Gro.trans {a a' a'' : Option Addr} {w w' w'' : World} (h : Gro a a' w w') (h2 : Gro a' a'' w' w'') : Gro a a'' w w'' :=
  ⟨h2.os.trans h.os, h2.tape.trans h.tape, h2.output.trans h.output, Nat.le_trans h.size h2.size, fun k hk ha => by
    rw [h2.keep k (Nat.lt_of_lt_of_le hk h.size) (fun o s e => by
      rcases h.near k o s e with h1 | ⟨o', s', h1⟩
      · omega
      · exact ha o' s' h1)]
    exact h.keep k hk ha, fun b o s e => by
    rcases h2.near b o s e with h1 | ⟨o', s', h1⟩
    · exact .inl (Nat.le_trans h.size h1)
    · exact h.near b o' s' h1⟩
theorem Gro.pre {a a' : Option Addr} {w W w' : World} (h : Gro a a' W w') (hb : Below w.heap.size w W) : Gro a a' w w' :=
  ⟨h.os.trans hb.os, h.tape.trans hb.tape, h.output.trans hb.output, Nat.le_trans hb.size h.size, fun k hk ha => by rw [h.keep k (Nat.lt_of_lt_of_le hk hb.size) ha, hb.block k hk], h.near.mono hb.size⟩
theorem Gro.bel {w w' : World} {a' : Option Addr} (h : Gro none a' w w') : Below w.heap.size w w' := ⟨h.os, h.tape, h.output, h.size, fun k hk => h.keep k hk (fun o s e => by cases e)⟩
theorem Gro.off {w w' : World} {x : Nat} {a a' : Option Addr} (hg : Gro a a' w w') (hx : x < w.heap.size) (ha : ∀ o s, a ≠ some ⟨x, o, s⟩) : ∀ o s, a' ≠ some ⟨x, o, s⟩ := fun o s e => by
  rcases hg.near x o s e with h1 | ⟨o', s', h1⟩
  · omega
  · exact ha o' s' h1
theorem Box.gro {w w' : World} {x : Nat} {a a' : Option Addr} {cs : List Value} (h : Box w x cs) (h0 : 0 < cs.length) (hg : Gro a a' w w') (ha : ∀ o s, a ≠ some ⟨x, o, s⟩) : Box w' x cs := h.block (hg.keep x (h.lt h0) ha)
/-- What an append leaves. -/
theorem Cb.step {w W0 w' : World} {D : Nat} {a a' : Option Addr} {c c' : Nat} {bs ns : List UInt8} (hb : Below w.heap.size w W0)
    (hcan : Can w' D 5 1 a' (bs.length + ns.length) c' (bs.map B ++ ns.map B)) (hg : W0.grownBy w' (Value.slice a bs.length c).ownBlock) (hn : Near W0.heap.size a a') (hown : ∀ b o s, a' = some ⟨b, o, s⟩ → D ≤ b) (hlt : ∀ b o s, a' = some ⟨b, o, s⟩ → b < w'.heap.size) :
    Cb w' D a' c' (bs ++ ns) ∧ Gro a a' w w' := by
  have ow : ∀ k, (∀ o s, a ≠ some ⟨k, o, s⟩) → some k ≠ (Value.slice a bs.length c).ownBlock := fun k hk e => by
    cases a with
    | none => simp [Value.ownBlock] at e
    | some ad =>
      obtain ⟨y, u, v⟩ := ad
      simp [Value.ownBlock] at e
      subst e
      exact hk u v rfl
  refine ⟨⟨by rw [List.length_append, List.map_append]; exact hcan, fun b o s e => ⟨hown b o s e, hlt b o s e⟩⟩, ⟨hg.os.trans hb.os, hg.tape.trans hb.tape, hg.output.trans hb.output, Nat.le_trans hb.size hg.size, fun k hk ha => ?_, hn.mono hb.size⟩⟩
  rw [hg.block k (Nat.lt_of_lt_of_le hk hb.size) (ow k ha), hb.block k hk]
theorem wpList_far {P : Program} {w : World} {ops : Array Oper} {rest : List Oper} {o : Oper} {ac : Act} {Q : Exit → Act → World → Prop} {t e : TypeId} {size bytes : Nat} (el : Elem P t e size bytes) (hgd : o.guard = none) (s x : Operand)
    (ho : o.op = .call { callee := .builtin .append, args := #[s, x], argTypes := #[t, t] })
    (D : Nat) (a : Option Addr) (n c : Nat) (xs : List Value) (hs : ac.eval s = .slice a n c) (hcan : Can w D e size a n c xs)
    (ad : Option Addr) (m k : Nat) (news : List Value) (hx : ac.eval x = .slice ad m k) (hl : news.length = m * size) (hr : Row w ad news) (h1 : ∀ u ∈ news, u.oneCell' = true)
    (hbytes : (n + m) * bytes ≤ 140737488355328) (hD : D ≤ w.heap.size) (hfar : ∀ b o s, a = some ⟨b, o, s⟩ → D ≤ b ∧ b < w.heap.size)
    (h : ∀ a' c' w', Can w' D e size a' (n + m) c' (xs ++ news) → w.grownBy w' (Value.slice a n c).ownBlock → Near w.heap.size a a' → (∀ b o s, a' = some ⟨b, o, s⟩ → D ≤ b) → (∀ b o s, a' = some ⟨b, o, s⟩ → b < w'.heap.size) → wpList P ops Q rest (ac.put o.dst (.slice a' (n + m) c')) w') : wpList P ops Q (o :: rest) ac w := by
  refine wpList_plain hgd fun K hK => ?_
  have := step_far (ops := ops) (K := K) (Q := Q) (E := True) el hgd s x ho D a n c xs hs hcan ad m k news hx hl hr h1 hbytes hD hfar (fun a' c' w' h2 h3 h4 h5 h6 => hK _ _ (h a' c' w' h2 h3 h4 h5 h6))
  have hw : Region.wanted o (yielded ops ac.tmps) = true := by simp [Region.wanted, hgd]
  rw [if_pos hw] at this
  exact this
def RetCb (w : World) (D : Nat) (a : Option Addr) (bs : List UInt8) (e : Ending) (w' : World) : Prop := ∃ a' c', e = .returned (.slice a' bs.length c') ∧ Cb w' D a' c' bs ∧ Gro a a' w w'
set_option maxHeartbeats 4000000 in
theorem number_rf (D c : Nat) (a : Option Addr) (bs : List UInt8) (v : Int) (w : World) (h : Cb w D a c bs) (hD : D ≤ w.heap.size) (hn : bs.length ≤ 10000000) :
    Calls Try.prog 62 #[.slice a bs.length c, .int .i64 v] w (RetCb w D a (bs ++ be8 v)) := by
  have HC := Lib.hid h
  have HL := Lib.hid hn
  clear h hn
  go_enter Try.func62, Try.ntmps62
  go_wp2
  go_loopw [0, 5] (fun sl i wr => ∃ (k : Nat) (a1 : Option Addr) (c1 : Nat) (l1 : List UInt8), k ≤ 8 ∧ i = .int .i64 (7 - (k : Int)) ∧ sl = .slice a1 l1.length c1 ∧ Hid (l1 = bs ++ (be8 v).take k) ∧ Hid (Cb wr D a1 c1 l1) ∧ Hid (Gro a a1 w wr)) (fun _ i _ => (intOf i + 1).toNat)
  case atStart => exact ⟨0, a, c, bs, by omega, rfl, rfl, by show _ = _; rw [List.take_zero, List.append_nil], HC.out, Gro.refl _ _⟩
  case round =>
    obtain ⟨k, a1, c1, l1, hk, rfl, rfl, hll1, hcb, hgr⟩ := hrel
    have hDr : D ≤ wr.heap.size := Nat.le_trans hD hgr.out.size
    by_cases hlt : k < 8
    · have hkb : k < (be8 v).length := by rw [be8_length]; exact hlt
      have HT := Lib.hid (show bs ++ (be8 v).take (k + 1) = l1 ++ [(be8 v)[k]'hkb] by rw [hll1.out, List.take_succ_eq_append_getElem hkb, List.append_assoc])
      have hll : l1.length ≤ 10000008 := by have := HL.out; rw [hll1.out, List.length_append, List.length_take]; omega
      have HV := Lib.hid (fun p hp h0 => byte_at v p k hkb hp h0)
      generalize (be8 v)[k]'hkb = x at HT HV
      clear hkb
      rcases (show k = 0 ∨ k = 1 ∨ k = 2 ∨ k = 3 ∨ k = 4 ∨ k = 5 ∨ k = 6 ∨ k = 7 by omega) with rfl | rfl | rfl | rfl | rfl | rfl | rfl | rfl
      · rw [show (7 - ((0 : Nat) : Int)) = 7 from rfl]
        have HVV := HV.out 72057594037927936 (by decide) (by decide)
        have HV2 := Lib.hid HVV
        clear HV HVV
        go_wp2_with (at_builtin; (refine wpList_far el_bytes rfl (.tmp 10) (.tmp 18) rfl D a1 l1.length c1 (l1.map B) rfl (hcb.out.can.alloc _) (some ⟨wr.heap.size, 0, none⟩) 1 1 [B x] rfl rfl (by rw [← HV2.out]; exact Row.new _ _ _ _) (by intro u hu; simp at hu; subst hu; rfl) (by omega) (by simp; omega) (fun b o s e => ⟨(hcb.out.far b o s e).1, by have := (hcb.out.far b o s e).2; simp; omega⟩) ?_); intro a2 c2 w2 hcan2 hg2 hn2 hf2 hl2; have hst := Cb.step (ns := [x]) ((Below.refl _ _).alloc (Nat.le_refl _) _) hcan2 hg2 hn2 hf2 hl2; have HST := Lib.hid hst; clear hst hcan2 hg2 hn2 hf2 hl2)
        exact ⟨⟨1, a2, c2, l1 ++ [x], by omega, rfl, by simp, by show _ = _; exact HT.out.symm, HST.out.1, hgr.out.trans HST.out.2⟩, by simp [intOf]⟩
      · rw [show (7 - ((1 : Nat) : Int)) = 6 from rfl]
        have HVV := HV.out 281474976710656 (by decide) (by decide)
        have HV2 := Lib.hid HVV
        clear HV HVV
        go_wp2_with (at_builtin; (refine wpList_far el_bytes rfl (.tmp 10) (.tmp 18) rfl D a1 l1.length c1 (l1.map B) rfl (hcb.out.can.alloc _) (some ⟨wr.heap.size, 0, none⟩) 1 1 [B x] rfl rfl (by rw [← HV2.out]; exact Row.new _ _ _ _) (by intro u hu; simp at hu; subst hu; rfl) (by omega) (by simp; omega) (fun b o s e => ⟨(hcb.out.far b o s e).1, by have := (hcb.out.far b o s e).2; simp; omega⟩) ?_); intro a2 c2 w2 hcan2 hg2 hn2 hf2 hl2; have hst := Cb.step (ns := [x]) ((Below.refl _ _).alloc (Nat.le_refl _) _) hcan2 hg2 hn2 hf2 hl2; have HST := Lib.hid hst; clear hst hcan2 hg2 hn2 hf2 hl2)
        exact ⟨⟨2, a2, c2, l1 ++ [x], by omega, rfl, by simp, by show _ = _; exact HT.out.symm, HST.out.1, hgr.out.trans HST.out.2⟩, by simp [intOf]⟩
      · rw [show (7 - ((2 : Nat) : Int)) = 5 from rfl]
        have HVV := HV.out 1099511627776 (by decide) (by decide)
        have HV2 := Lib.hid HVV
        clear HV HVV
        go_wp2_with (at_builtin; (refine wpList_far el_bytes rfl (.tmp 10) (.tmp 18) rfl D a1 l1.length c1 (l1.map B) rfl (hcb.out.can.alloc _) (some ⟨wr.heap.size, 0, none⟩) 1 1 [B x] rfl rfl (by rw [← HV2.out]; exact Row.new _ _ _ _) (by intro u hu; simp at hu; subst hu; rfl) (by omega) (by simp; omega) (fun b o s e => ⟨(hcb.out.far b o s e).1, by have := (hcb.out.far b o s e).2; simp; omega⟩) ?_); intro a2 c2 w2 hcan2 hg2 hn2 hf2 hl2; have hst := Cb.step (ns := [x]) ((Below.refl _ _).alloc (Nat.le_refl _) _) hcan2 hg2 hn2 hf2 hl2; have HST := Lib.hid hst; clear hst hcan2 hg2 hn2 hf2 hl2)
        exact ⟨⟨3, a2, c2, l1 ++ [x], by omega, rfl, by simp, by show _ = _; exact HT.out.symm, HST.out.1, hgr.out.trans HST.out.2⟩, by simp [intOf]⟩
      · rw [show (7 - ((3 : Nat) : Int)) = 4 from rfl]
        have HVV := HV.out 4294967296 (by decide) (by decide)
        have HV2 := Lib.hid HVV
        clear HV HVV
        go_wp2_with (at_builtin; (refine wpList_far el_bytes rfl (.tmp 10) (.tmp 18) rfl D a1 l1.length c1 (l1.map B) rfl (hcb.out.can.alloc _) (some ⟨wr.heap.size, 0, none⟩) 1 1 [B x] rfl rfl (by rw [← HV2.out]; exact Row.new _ _ _ _) (by intro u hu; simp at hu; subst hu; rfl) (by omega) (by simp; omega) (fun b o s e => ⟨(hcb.out.far b o s e).1, by have := (hcb.out.far b o s e).2; simp; omega⟩) ?_); intro a2 c2 w2 hcan2 hg2 hn2 hf2 hl2; have hst := Cb.step (ns := [x]) ((Below.refl _ _).alloc (Nat.le_refl _) _) hcan2 hg2 hn2 hf2 hl2; have HST := Lib.hid hst; clear hst hcan2 hg2 hn2 hf2 hl2)
        exact ⟨⟨4, a2, c2, l1 ++ [x], by omega, rfl, by simp, by show _ = _; exact HT.out.symm, HST.out.1, hgr.out.trans HST.out.2⟩, by simp [intOf]⟩
      · rw [show (7 - ((4 : Nat) : Int)) = 3 from rfl]
        have HVV := HV.out 16777216 (by decide) (by decide)
        have HV2 := Lib.hid HVV
        clear HV HVV
        go_wp2_with (at_builtin; (refine wpList_far el_bytes rfl (.tmp 10) (.tmp 18) rfl D a1 l1.length c1 (l1.map B) rfl (hcb.out.can.alloc _) (some ⟨wr.heap.size, 0, none⟩) 1 1 [B x] rfl rfl (by rw [← HV2.out]; exact Row.new _ _ _ _) (by intro u hu; simp at hu; subst hu; rfl) (by omega) (by simp; omega) (fun b o s e => ⟨(hcb.out.far b o s e).1, by have := (hcb.out.far b o s e).2; simp; omega⟩) ?_); intro a2 c2 w2 hcan2 hg2 hn2 hf2 hl2; have hst := Cb.step (ns := [x]) ((Below.refl _ _).alloc (Nat.le_refl _) _) hcan2 hg2 hn2 hf2 hl2; have HST := Lib.hid hst; clear hst hcan2 hg2 hn2 hf2 hl2)
        exact ⟨⟨5, a2, c2, l1 ++ [x], by omega, rfl, by simp, by show _ = _; exact HT.out.symm, HST.out.1, hgr.out.trans HST.out.2⟩, by simp [intOf]⟩
      · rw [show (7 - ((5 : Nat) : Int)) = 2 from rfl]
        have HVV := HV.out 65536 (by decide) (by decide)
        have HV2 := Lib.hid HVV
        clear HV HVV
        go_wp2_with (at_builtin; (refine wpList_far el_bytes rfl (.tmp 10) (.tmp 18) rfl D a1 l1.length c1 (l1.map B) rfl (hcb.out.can.alloc _) (some ⟨wr.heap.size, 0, none⟩) 1 1 [B x] rfl rfl (by rw [← HV2.out]; exact Row.new _ _ _ _) (by intro u hu; simp at hu; subst hu; rfl) (by omega) (by simp; omega) (fun b o s e => ⟨(hcb.out.far b o s e).1, by have := (hcb.out.far b o s e).2; simp; omega⟩) ?_); intro a2 c2 w2 hcan2 hg2 hn2 hf2 hl2; have hst := Cb.step (ns := [x]) ((Below.refl _ _).alloc (Nat.le_refl _) _) hcan2 hg2 hn2 hf2 hl2; have HST := Lib.hid hst; clear hst hcan2 hg2 hn2 hf2 hl2)
        exact ⟨⟨6, a2, c2, l1 ++ [x], by omega, rfl, by simp, by show _ = _; exact HT.out.symm, HST.out.1, hgr.out.trans HST.out.2⟩, by simp [intOf]⟩
      · rw [show (7 - ((6 : Nat) : Int)) = 1 from rfl]
        have HVV := HV.out 256 (by decide) (by decide)
        have HV2 := Lib.hid HVV
        clear HV HVV
        go_wp2_with (at_builtin; (refine wpList_far el_bytes rfl (.tmp 10) (.tmp 18) rfl D a1 l1.length c1 (l1.map B) rfl (hcb.out.can.alloc _) (some ⟨wr.heap.size, 0, none⟩) 1 1 [B x] rfl rfl (by rw [← HV2.out]; exact Row.new _ _ _ _) (by intro u hu; simp at hu; subst hu; rfl) (by omega) (by simp; omega) (fun b o s e => ⟨(hcb.out.far b o s e).1, by have := (hcb.out.far b o s e).2; simp; omega⟩) ?_); intro a2 c2 w2 hcan2 hg2 hn2 hf2 hl2; have hst := Cb.step (ns := [x]) ((Below.refl _ _).alloc (Nat.le_refl _) _) hcan2 hg2 hn2 hf2 hl2; have HST := Lib.hid hst; clear hst hcan2 hg2 hn2 hf2 hl2)
        exact ⟨⟨7, a2, c2, l1 ++ [x], by omega, rfl, by simp, by show _ = _; exact HT.out.symm, HST.out.1, hgr.out.trans HST.out.2⟩, by simp [intOf]⟩
      · rw [show (7 - ((7 : Nat) : Int)) = 0 from rfl]
        have HVV := HV.out 1 (by decide) (by decide)
        have HV2 := (show Hid (Value.int .u8 (IntKind.u8.wrap (IntKind.u64.wrap v)) = B x) by show _ = _; rw [← HVV]; simp)
        clear HV HVV
        go_wp2_with (at_builtin; (refine wpList_far el_bytes rfl (.tmp 10) (.tmp 18) rfl D a1 l1.length c1 (l1.map B) rfl (hcb.out.can.alloc _) (some ⟨wr.heap.size, 0, none⟩) 1 1 [B x] rfl rfl (by rw [← HV2.out]; exact Row.new _ _ _ _) (by intro u hu; simp at hu; subst hu; rfl) (by omega) (by simp; omega) (fun b o s e => ⟨(hcb.out.far b o s e).1, by have := (hcb.out.far b o s e).2; simp; omega⟩) ?_); intro a2 c2 w2 hcan2 hg2 hn2 hf2 hl2; have hst := Cb.step (ns := [x]) ((Below.refl _ _).alloc (Nat.le_refl _) _) hcan2 hg2 hn2 hf2 hl2; have HST := Lib.hid hst; clear hst hcan2 hg2 hn2 hf2 hl2)
        exact ⟨⟨8, a2, c2, l1 ++ [x], by omega, rfl, by simp, by show _ = _; exact HT.out.symm, HST.out.1, hgr.out.trans HST.out.2⟩, by simp [intOf]⟩
    · obtain rfl : k = 8 := by omega
      rw [show (7 - ((8 : Nat) : Int)) = -1 from rfl]
      have HE := Lib.hid (show l1 = bs ++ be8 v by rw [hll1.out, List.take_of_length_le (by rw [be8_length]; exact Nat.le_refl _)])
      go_wp2
      go_ret
      refine ⟨a1, c1, ?_, ?_, hgr.out⟩
      · rw [← HE.out]; rfl
      · rw [← HE.out]; exact hcb.out
end Go.Proofs.Ytlckgnemmffdkaa
