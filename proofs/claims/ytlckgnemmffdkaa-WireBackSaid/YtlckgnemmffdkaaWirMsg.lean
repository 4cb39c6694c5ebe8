import Derived.Test.YtlckgnemmffdkaaWirListWEnt
import Derived.Test.YtlckgnemmffdkaaWirCmd
set_option linter.unusedVariables false
set_option linter.unusedSimpArgs false
/- A message out of bytes; a message behind a writer's bytes. (printed by gen_wirseq.py) -/
namespace Go.Proofs.Ytlckgnemmffdkaa
open Go.ChangeShapes Go.WideShapes Go.ChangeAt Go.RowKit
set_option maxRecDepth 100000

theorem wMsgP_eq (l : List UInt8) (p : Nat) : wMsgP l p = bindP (kindP l p) fun v0 p => bindP (timesP numP 6 l p) fun xs p => bindP (truthP l p) fun v7 p => bindP (listP 26 wEntP l p) fun v8 p => bindP (numP l p) fun v9 p => bindP (numP l p) fun v10 p => bindP (smallP l p) fun v11 p => bindP (bytesP l p) fun v12 p => bindP (bytesP l p) fun v13 p => .ok (⟨v0, xs.getD 0 0, xs.getD 1 0, xs.getD 2 0, xs.getD 3 0, xs.getD 4 0, xs.getD 5 0, v7, v8, v9, v10, v11, v12, v13⟩, p) := by
  unfold wMsgP
  simp only [timesP, bindP_assoc, bindP_ok, List.getD_cons_zero, List.getD_cons_succ]
theorem map_flat (es : List (WEnt × PEnt)) : (es.map Prod.fst).flatMap encWEnt = es.flatMap fun y => encWEnt y.1 := by
  induction es with
  | nil => rfl
  | cons e es ih => rw [List.map_cons, List.flatMap_cons, List.flatMap_cons, ih]
theorem mem_flat {α : Type} {f : α → List UInt8} {x : α} : ∀ {xs : List α}, x ∈ xs → (f x).length ≤ (xs.flatMap f).length
  | y :: xs, h => by
    rw [List.flatMap_cons, List.length_append]
    rcases List.mem_cons.1 h with rfl | h
    · omega
    · have := mem_flat (f := f) h; omega
theorem flat_len1 {α : Type} {f : α → List UInt8} (hf : ∀ x, 1 ≤ (f x).length) (xs : List α) : xs.length ≤ (xs.flatMap f).length := by
  induction xs with
  | nil => simp
  | cons x xs ih => rw [List.flatMap_cons, List.length_append, List.length_cons]; have := hf x; omega
theorem MemEs.keep {S : Nat → Prop} {W w w' : World} {a : Option Addr} {vs : List WEnt} {es : List (WEnt × PEnt)} (h : MemEs W w a vs es) (hk : Keep S w w') (hs : ∀ k, S k → k < W.heap.size) : MemEs W w' a vs es := ⟨h.vals, h.row.keep hk hs, fun y hy => (h.each y hy).keep hk hs⟩
theorem MemEs.mono {W W' w : World} {a : Option Addr} {vs : List WEnt} {es : List (WEnt × PEnt)} (h : MemEs W w a vs es) (hw : W'.heap.size ≤ W.heap.size) : MemEs W' w a vs es := ⟨h.vals, h.row.mono hw, fun y hy => (h.each y hy).mono hw⟩
theorem MemEs.below {W w w' : World} {a : Option Addr} {vs : List WEnt} {es : List (WEnt × PEnt)} (h : MemEs W w a vs es) (hb : Below w.heap.size w w') : MemEs W w' a vs es := ⟨h.vals, h.row.below hb, fun y hy => (h.each y hy).below hb⟩
theorem MemEs.turn {W w w' : World} {g gx : Nat} {a : Option Addr} {vs : List WEnt} {es : List (WEnt × PEnt)} (h : MemEs W w a vs es) (ht : Turn g gx w w') (hg : g < W.heap.size) (hx : gx < W.heap.size) : MemEs W w' a vs es := ⟨h.vals, h.row.turn ht hg hx, fun y hy => ⟨(h.each y hy).row.turn ht hg hx, (h.each y hy).le⟩⟩
abbrev PMsg := Option Addr × Nat × Option Addr × Nat × Option Addr × Nat
abbrev cellsMsg (v : WMsg) (p : PMsg) : List Value := [.int .i8 v.kind, .int .i64 v.src, .int .i64 v.dst, .int .i64 v.term, .int .i64 v.index, .int .i64 v.last, .int .i64 v.commit, .bool v.ok, .slice p.1 v.entries.length p.2.1, .int .i64 v.sindex, .int .i64 v.sterm, B v.sset, .slice p.2.2.1 v.sdata.length p.2.2.2.1, .slice p.2.2.2.2.1 v.data.length p.2.2.2.2.2]
def valMsg (v : WMsg) (p : PMsg) : Value := .agg #[.int .i8 v.kind, .int .i64 v.src, .int .i64 v.dst, .int .i64 v.term, .int .i64 v.index, .int .i64 v.last, .int .i64 v.commit, .bool v.ok, .slice p.1 v.entries.length p.2.1, .int .i64 v.sindex, .int .i64 v.sterm, B v.sset, .slice p.2.2.1 v.sdata.length p.2.2.2.1, .slice p.2.2.2.2.1 v.data.length p.2.2.2.2.2]
/-- A message's rows lie in new memory. -/
structure MemMsg (W w : World) (v : WMsg) (p : PMsg) : Prop where
  ents : ∃ es, MemEs W w p.1 v.entries es
  le0 : v.entries.length ≤ p.2.1
  row1 : FarRow W w p.2.2.1 (v.sdata.map B)
  le1 : v.sdata.length ≤ p.2.2.2.1
  row2 : FarRow W w p.2.2.2.2.1 (v.data.map B)
  le2 : v.data.length ≤ p.2.2.2.2.2
theorem MemMsg.keep {S : Nat → Prop} {W w w' : World} {v : WMsg} {p : PMsg} (h : MemMsg W w v p) (hk : Keep S w w') (hs : ∀ k, S k → k < W.heap.size) : MemMsg W w' v p := ⟨h.ents.imp fun _ e => e.keep hk hs, h.le0, h.row1.keep hk hs, h.le1, h.row2.keep hk hs, h.le2⟩
theorem MemMsg.mono {W W' w : World} {v : WMsg} {p : PMsg} (h : MemMsg W w v p) (hw : W'.heap.size ≤ W.heap.size) : MemMsg W' w v p := ⟨h.ents.imp fun _ e => e.mono hw, h.le0, h.row1.mono hw, h.le1, h.row2.mono hw, h.le2⟩
theorem MemMsg.below {W w w' : World} {v : WMsg} {p : PMsg} (h : MemMsg W w v p) (hb : Below w.heap.size w w') : MemMsg W w' v p := ⟨h.ents.imp fun _ e => e.below hb, h.le0, h.row1.below hb, h.le1, h.row2.below hb, h.le2⟩
def zMsg : WMsg := ⟨0, 0, 0, 0, 0, 0, 0, false, [], 0, 0, 0, [], []⟩
def pzMsg : PMsg := (none, 0, none, 0, none, 0)
theorem memzMsg (W w : World) : MemMsg W w zMsg pzMsg := ⟨⟨[], rfl, FarRow.nil _ _ _, fun y hy => by cases hy⟩, Nat.le_refl _, FarRow.nil _ _ _, Nat.le_refl _, FarRow.nil _ _ _, Nat.le_refl _⟩
def IsMsg (w0 : World) (gx : Nat) (v : WMsg) (w' : World) : Prop := ∃ p : PMsg, Box w' gx (cellsMsg v p) ∧ MemMsg w0 w' v p
structure LowMsg (g : Nat) (w : World) (v : WMsg) (p : PMsg) : Prop where
  ents : ∃ es : List (WEnt × PEnt), es.map Prod.fst = v.entries ∧ LowRow g w p.1 (es.flatMap cellsEn) ∧ ∀ y ∈ es, LowEnt g w y.1 y.2
  row1 : LowRow g w p.2.2.1 (v.sdata.map B)
  row2 : LowRow g w p.2.2.2.2.1 (v.data.map B)
theorem LowMsg.up {g g' : Nat} {w W : World} {v : WMsg} {p : PMsg} (h : LowMsg g w v p) (hg : g ≤ g') (hb : Below w.heap.size w W) : LowMsg g' W v p := ⟨h.ents.imp fun _ e => ⟨e.1, e.2.1.up hg hb, fun y hy => (e.2.2 y hy).up hg hb⟩, h.row1.up hg hb, h.row2.up hg hb⟩
structure OkMsg (v : WMsg) : Prop where
  kind : KindIn v.kind
  kinds : ∀ y ∈ v.entries, KindIn y.kind
  size : (encWMsg v).length ≤ 1000000
/-- What the writer wants of a message's rows, its entries named. -/
structure LowRows (g : Nat) (w : World) (p0 p2 p4 : Option Addr) (es : List (WEnt × PEnt)) (l1 l2 : List UInt8) : Prop where
  row0 : LowRow g w p0 (es.flatMap cellsEn)
  each : ∀ y ∈ es, LowEnt g w y.1 y.2
  row1 : LowRow g w p2 (l1.map B)
  row2 : LowRow g w p4 (l2.map B)
theorem LowRows.grew {D g c : Nat} {w w' : World} {a a' p0 p2 p4 : Option Addr} {bs l1 l2 : List UInt8} {es : List (WEnt × PEnt)} (h : LowRows g w p0 p2 p4 es l1 l2) (hc : Cw w D g a c bs) (hg : Grew g a a' w w') : LowRows g w' p0 p2 p4 es l1 l2 := ⟨h.row0.grew hc hg, fun y hy => ⟨(h.each y hy).row.grew hc hg⟩, h.row1.grew hc hg, h.row2.grew hc hg⟩
set_option maxHeartbeats 16000000 in
theorem message_t (g c p gx : Nat) (a : Option Addr) (bs : List UInt8) (w : World) (h : Cr w g a c bs p) (hl : bs.length ≤ 2000000) (hx : Box w gx [.int .i8 0, .int .i64 0, .int .i64 0, .int .i64 0, .int .i64 0, .int .i64 0, .int .i64 0, .bool false, .slice none 0 0, .int .i64 0, .int .i64 0, .int .u8 0, .slice none 0 0, .slice none 0 0]) (hgx : Off g (rowA a bs) gx) :
    Calls Try.prog 71 #[.pointer (some ⟨g, 0, none⟩), .pointer (some ⟨gx, 0, none⟩)] w (RetT w g gx 14 a c bs (wMsgP bs p) (IsMsg w gx)) := by
  have HP := Lib.hid (wMsgP_eq bs p)
  have HT := Lib.hid (Turn.refl g gx w)
  have HC := Lib.hid h
  have HX := Lib.hid hx
  have HGL := Lib.hid (And.intro (h.box.lt (by simp)) (hx.lt (by simp)))
  clear h hx
  go_enter Try.func71, Try.ntmps71
  go_upto_region 1 with (go_at_call 80; ((with_reducible refine (kind_t g c _ gx _ a bs _ 0 _ HC.out hl HX.out hgx (by simp) (by simp)).mono ?_); rintro e w1 ⟨ht, ⟨v, q, hr, rfl, hc, hb⟩ | ⟨f, hr, rfl, hb⟩⟩ <;> replace HT := Lib.hid (Turn.next HT.out ht) <;> first | (replace HP := Lib.hid (step_ok HP.out hr); replace HC := Lib.hid hc; replace HX := Lib.hid hb; clear ht hr hc hb) | (have HB := Lib.hid hb; have HPE := Lib.hid (step_bad HP.out hr); clear ht hr hb)))
  · replace HX : Hid (Box w1 gx [.int .i8 v, .int .i64 0, .int .i64 0, .int .i64 0, .int .i64 0, .int .i64 0, .int .i64 0, .bool false, .slice none 0 0, .int .i64 0, .int .i64 0, .int .u8 0, .slice none 0 0, .slice none 0 0]) := HX
    go_quiet (fail)
    have HC3 := Lib.hid (HC.out.below (below_drewN (Below.refl w1.heap.size w1) nq))
    have HX3 := Lib.hid (HX.out.next (by simp) (below_drewN (Below.refl w1.heap.size w1) nq))
    have HT3 := Lib.hid (Turn.next HT.out (Turn.below (below_drewN (Below.refl w1.heap.size w1) nq)))
    clear HC HX HT
    have HC := HC3
    have HX := HX3
    have HT := HT3
    clear HC3 HX3 HT3
    generalize w1.drewN nq = w2 at HC HX HT ⊢
    go_wp2
    go_loopw [5, 30] (fun _ i wr => ∃ (xs : List Int) (q1 : Nat), xs.length ≤ 6 ∧ i = .int .i64 xs.length ∧ Hid (Cr wr g a c bs q1) ∧ Hid (Turn g gx w wr) ∧ Hid (Box wr gx (putI [.int .i8 v, .int .i64 0, .int .i64 0, .int .i64 0, .int .i64 0, .int .i64 0, .int .i64 0, .bool false, .slice none 0 0, .int .i64 0, .int .i64 0, .int .u8 0, .slice none 0 0, .slice none 0 0] 1 xs)) ∧ Hid (timesP numP xs.length bs q = .ok (xs, q1))) (fun _ i _ => 6 - (intOf i).toNat)
    case atStart => exact ⟨[], q, by simp, rfl, HC.out, HT.out, by show Box _ _ _; rw [putI_nil]; exact HX.out, rfl⟩
    case round =>
      obtain ⟨xs, q1, hk, rfl, hcr, htr, hbx, hpr⟩ := hrel
      by_cases hlt : xs.length < 6
      · have hnw := number_t g c q1 gx (1 + xs.length) a bs _ wr hcr.out hl hbx.out hgx (by rw [putI_length (by simp; omega)]; simp; omega)
        have HNW := Lib.hid hnw
        clear hnw
        have hidx : ∀ w, (Instr.index 176 (.agg #[.pointer (some ⟨gx, 1, none⟩), .pointer (some ⟨gx, 2, none⟩), .pointer (some ⟨gx, 3, none⟩), .pointer (some ⟨gx, 4, none⟩), .pointer (some ⟨gx, 5, none⟩), .pointer (some ⟨gx, 6, none⟩)]) (.int .i64 xs.length)).run Try.prog w = .ok (.pointer (some ⟨gx, 1 + xs.length, none⟩)) w := fun _ => by
          clear hcr htr hbx hpr HNW
          generalize xs.length = k at hlt
          rcases (show k = 0 ∨ k = 1 ∨ k = 2 ∨ k = 3 ∨ k = 4 ∨ k = 5 by omega) with rfl | rfl | rfl | rfl | rfl | rfl <;> kernel_rfl
        go_wp2_with (go_at_call 79; ((with_reducible refine HNW.out.mono ?_); rintro en w4 ⟨ht, ⟨v4, q4, hr, rfl, hc, hb⟩ | ⟨f, hr, rfl, hb⟩⟩ <;> have HT4 := Lib.hid (Turn.next htr.out ht) <;> have HR4 := Lib.hid hr <;> have HB4 := Lib.hid hb <;> clear ht hr hb; all_goals (first | (have HC4 := Lib.hid hc; clear hc) | skip)))
        · have hb := HB4.out
          rw [putI_snoc (by simp; omega)] at hb
          exact ⟨⟨xs ++ [v4], q4, by simp; omega, by simp, HC4.out, HT4.out, hb, by (show _ = _); rw [List.length_append]; exact times_snoc hpr.out HR4.out⟩, by simp [intOf]; omega⟩
        · refine ⟨rfl, HT4.out, .inr ⟨_, step_bad HP.out (times_fail hpr.out HR4.out hlt), rfl, ?_⟩⟩
          have h1 := HB4.out
          rw [putI_length (by simp; omega)] at h1; exact h1
      · have h4 : xs.length = 6 := by omega
        have HPR := hpr.out
        rw [h4] at HPR
        obtain ⟨y0, y1, y2, y3, y4, y5, rfl⟩ : ∃ y0 y1 y2 y3 y4 y5, xs = [y0, y1, y2, y3, y4, y5] := by
          match xs, h4 with
          | [y0, y1, y2, y3, y4, y5], _ => exact ⟨y0, y1, y2, y3, y4, y5, rfl⟩
        replace HP := Lib.hid (step_ok HP.out HPR)
        clear HPR HC HT HX
        have HC := hcr
        have HT := htr
        have HX : Hid (Box wr gx [.int .i8 v, .int .i64 y0, .int .i64 y1, .int .i64 y2, .int .i64 y3, .int .i64 y4, .int .i64 y5, .bool false, .slice none 0 0, .int .i64 0, .int .i64 0, .int .u8 0, .slice none 0 0, .slice none 0 0]) := hbx
        clear hcr htr hbx hpr h4 hk hlt
        have hmf : ∀ (fn : Fn) (first cap : Array Value) (w : World), (Instr.makeFunc fn first cap).run Try.prog w = .ok (.func fn first cap) w := fun _ _ _ _ => rfl
        go_wp2_with (first
          | (go_at_call 84; ((with_reducible refine (truth_t g c _ gx _ a bs _ _ HC.out hl HX.out hgx (by simp) (by simp)).mono ?_); rintro e w1 ⟨ht, ⟨v, q, hr, rfl, hc, hb⟩ | ⟨f, hr, rfl, hb⟩⟩ <;> (try (replace HE := Lib.hid (HE.out.turn ht HGL.out.1 HGL.out.2)); try (replace HD1 := Lib.hid (HD1.out.turn ht HGL.out.1 HGL.out.2))) <;> replace HT := Lib.hid (Turn.next HT.out ht) <;> first | (replace HP := Lib.hid (step_ok HP.out hr); replace HC := Lib.hid hc; replace HX := Lib.hid hb; clear ht hr hc hb) | (have HB := Lib.hid hb; have HPE := Lib.hid (step_bad HP.out hr); clear ht hr hb)))
          | (go_at_call 98; ((with_reducible refine (listent_t g c _ gx 8 a bs _ _ HC.out hl HX.out hgx (by simp) (by simp)).mono ?_); rintro e w1 ⟨ht, ⟨v, q, hr, rfl, hc, es, ad, k, hb, he, hk⟩ | ⟨f, hr, rfl, hb⟩⟩ <;> have hsz := HT.out.size <;> replace HT := Lib.hid (Turn.next HT.out ht) <;> first | (have hev : es.length = v.length := (by rw [← he.vals, List.length_map]); rw [hev] at hb hk; clear hev; replace HP := Lib.hid (step_ok HP.out hr); replace HC := Lib.hid hc; replace HX := Lib.hid hb; have HE := Lib.hid (he.mono hsz); have HK := Lib.hid hk; clear ht hr hc hb he hk hsz) | (have HB := Lib.hid hb; have HPE := Lib.hid (step_bad HP.out hr); clear ht hr hb)))
          | (go_at_call 79; ((with_reducible refine (number_t g c _ gx _ a bs _ _ HC.out hl HX.out hgx (by simp)).mono ?_); rintro e w1 ⟨ht, ⟨v, q, hr, rfl, hc, hb⟩ | ⟨f, hr, rfl, hb⟩⟩ <;> (try (replace HE := Lib.hid (HE.out.turn ht HGL.out.1 HGL.out.2)); try (replace HD1 := Lib.hid (HD1.out.turn ht HGL.out.1 HGL.out.2))) <;> replace HT := Lib.hid (Turn.next HT.out ht) <;> first | (replace HP := Lib.hid (step_ok HP.out hr); replace HC := Lib.hid hc; replace HX := Lib.hid hb; clear ht hr hc hb) | (have HB := Lib.hid hb; have HPE := Lib.hid (step_bad HP.out hr); clear ht hr hb)))
          | (go_at_call 81; ((with_reducible refine (small_t g c _ gx _ a bs _ _ HC.out hl HX.out hgx (by simp)).mono ?_); rintro e w1 ⟨ht, ⟨v, q, hr, rfl, hc, hb⟩ | ⟨f, hr, rfl, hb⟩⟩ <;> (try (replace HE := Lib.hid (HE.out.turn ht HGL.out.1 HGL.out.2)); try (replace HD1 := Lib.hid (HD1.out.turn ht HGL.out.1 HGL.out.2))) <;> replace HT := Lib.hid (Turn.next HT.out ht) <;> first | (replace HP := Lib.hid (step_ok HP.out hr); replace HC := Lib.hid hc; replace HX := Lib.hid hb; clear ht hr hc hb) | (have HB := Lib.hid hb; have HPE := Lib.hid (step_bad HP.out hr); clear ht hr hb)))
          | (go_at_call 82; ((with_reducible refine (bytes_t g c _ gx 12 a bs _ none 0 0 _ HC.out hl HX.out hgx (by simp) (by simp)).mono ?_); rintro e w1 ⟨ht, ⟨v, q, hr, rfl, hc, ad1, k1, hb, hd, hk, hf⟩ | ⟨f, hr, rfl, hb⟩⟩ <;> have hsz := HT.out.size <;> (try (replace HE := Lib.hid (HE.out.turn ht HGL.out.1 HGL.out.2)); try (replace HD1 := Lib.hid (HD1.out.turn ht HGL.out.1 HGL.out.2))) <;> replace HT := Lib.hid (Turn.next HT.out ht) <;> first | (replace HP := Lib.hid (step_ok HP.out hr); replace HC := Lib.hid hc; replace HX := Lib.hid hb; have HD1 : Hid (FarRow w w1 ad1 (v.map B)) := Lib.hid ⟨hd, fun _ b o s e => Nat.le_trans hsz (hf b o s e)⟩; have HK1 := Lib.hid hk; clear ht hr hc hb hd hk hf hsz) | (have HB := Lib.hid hb; have HPE := Lib.hid (step_bad HP.out hr); clear ht hr hb)))
          | (go_at_call 82; ((with_reducible refine (bytes_t g c _ gx 13 a bs _ none 0 0 _ HC.out hl HX.out hgx (by simp) (by simp)).mono ?_); rintro e w1 ⟨ht, ⟨v, q, hr, rfl, hc, ad2, k2, hb, hd, hk, hf⟩ | ⟨f, hr, rfl, hb⟩⟩ <;> have hsz := HT.out.size <;> (try (replace HE := Lib.hid (HE.out.turn ht HGL.out.1 HGL.out.2)); try (replace HD1 := Lib.hid (HD1.out.turn ht HGL.out.1 HGL.out.2))) <;> replace HT := Lib.hid (Turn.next HT.out ht) <;> first | (replace HP := Lib.hid (step_ok HP.out hr); replace HC := Lib.hid hc; replace HX := Lib.hid hb; have HD2 : Hid (FarRow w w1 ad2 (v.map B)) := Lib.hid ⟨hd, fun _ b o s e => Nat.le_trans hsz (hf b o s e)⟩; have HK2 := Lib.hid hk; clear ht hr hc hb hd hk hf hsz) | (have HB := Lib.hid hb; have HPE := Lib.hid (step_bad HP.out hr); clear ht hr hb))))
        all_goals first
          | (first | go_end0 | refine bodyPost_ret (results_none rfl _ _ _) rfl ?_); exact ⟨HT.out, .inl ⟨_, _, HP.out, rfl, HC.out, (ad, k, ad1, k1, ad2, k2), HX.out, ⟨es, HE.out⟩, HK.out, HD1.out, HK1.out, HD2.out, HK2.out⟩⟩
          | exact ⟨rfl, HT.out, .inr ⟨_, HPE.out, rfl, HB.out⟩⟩
  · exact ⟨rfl, HT.out, .inr ⟨_, HPE.out, rfl, HB.out⟩⟩
set_option maxHeartbeats 16000000 in
theorem message_w (D g gx c : Nat) (a : Option Addr) (bs : List UInt8) (x : WMsg) (p : PMsg) (w : World) (h : Cw w D g a c bs) (hD : D ≤ w.heap.size) (hx : Box w gx (cellsMsg x p)) (hp : LowMsg g w x p) (hok : OkMsg x) (hgx : gx ≠ g) (hxa : ∀ o s, a ≠ some ⟨gx, o, s⟩) (hn : bs.length ≤ 1000000) :
    Calls Try.prog 71 #[.pointer (some ⟨g, 0, none⟩), .pointer (some ⟨gx, 0, none⟩)] w (RetCw w D g a (bs ++ encWMsg x)) := by
  obtain ⟨kind, src, dst, term, index, last, commit, ok, entries, sindex, sterm, sset, sdata, data⟩ := x
  obtain ⟨p0, p1, p2, p3, p4, p5⟩ := p
  obtain ⟨⟨es, hes, hrow0, heach⟩, hrow1, hrow2⟩ := hp
  simp only at hes hrow0 heach hrow1 hrow2
  subst hes
  have hHL : (es.flatMap fun y => encWEnt y.1).length ≤ 1000000 ∧ es.length ≤ 1000000 ∧ sdata.length ≤ 1000000 ∧ data.length ≤ 1000000 := by
    have h1 := hok.size
    unfold encWMsg at h1
    simp only [List.length_append, map_flat] at h1
    have h2 := flat_len1 (f := fun y : WEnt × PEnt => encWEnt y.1) (fun y => by have := encWEnt_size y.1; omega) es
    omega
  obtain ⟨hle, hlm, hls, hld⟩ := hHL
  have HOK : Hid (∀ y ∈ es, OkEnt y.1) := fun y hy => ⟨hok.kinds _ (List.mem_map.2 ⟨y, hy, rfl⟩), Nat.le_trans (mem_flat (f := fun y : WEnt × PEnt => encWEnt y.1) hy) hle⟩
  have HK := Lib.hid (show -128 ≤ kind ∧ kind < 128 from hok.kind)
  have hr : LowRows g w p0 p2 p4 es sdata data := ⟨hrow0, heach, hrow1, hrow2⟩
  have HR := Lib.hid hr
  have HRL := Lib.hid (fun (a3 : Option Addr) (wr : World) (_ : True) (hg : Grew g a a3 w wr) => hr.grew h hg)
  have HG := Lib.hid (Grew.refl g a w)
  have HC := Lib.hid h
  have HX : Hid (Box w gx [.int .i8 kind, .int .i64 src, .int .i64 dst, .int .i64 term, .int .i64 index, .int .i64 last, .int .i64 commit, .bool ok, .slice p0 (es.map Prod.fst).length p1, .int .i64 sindex, .int .i64 sterm, B sset, .slice p2 sdata.length p3, .slice p4 data.length p5]) := Lib.hid hx
  have HX0 := HX
  have HO := Lib.hid (And.intro hgx (And.intro (hx.lt (by simp)) hxa))
  have hlen : (es.map Prod.fst).length = es.length := List.length_map _
  have HLN := Lib.hid hlen
  clear h hx hok hgx hxa hr hrow0 heach hrow1 hrow2 hlen
  go_enter Try.func71, Try.ntmps71
  go_upto_region 1 with (go_at_call 80; ((with_reducible refine (kind_w D g gx 0 _ _ _ kind _ HC.out (Nat.le_trans hD HG.out.size) (HX.out.cell (j := 0) (by simp)) (HX.out.froz (j := 0) (by simp)) HK.out HO.out.1 (HG.out.off HO.out.2.1 HO.out.2.2) (by first | omega | (simp only [List.length_append, List.length_cons, List.length_nil]; omega))).mono ?_); rintro en w1 ⟨a1, c1, rfl, hcw1, hgr1⟩; replace HX := Lib.hid (HX.out.grew (by simp) hgr1 HO.out.1 (HG.out.off HO.out.2.1 HO.out.2.2)); replace HR := Lib.hid (HR.out.grew HC.out hgr1); replace HG := Lib.hid (HG.out.trans hgr1); replace HC := Lib.hid hcw1; clear hcw1 hgr1))
  go_quiet (fail)
  have HC3 := Lib.hid (HC.out.below (below_drewN (Below.refl w1.heap.size w1) nq))
  have HG3 := Lib.hid (HG.out.next (below_drewN (Below.refl w1.heap.size w1) nq))
  clear HC HG HX
  have HC := HC3
  have HG := HG3
  clear HC3 HG3
  generalize w1.drewN nq = w2 at HC HG ⊢
  go_wp2
  have HCL : Hid (∀ k (h : k < ([src, dst, term, index, last, commit] : List Int).length), ∀ wr, Box wr gx [.int .i8 kind, .int .i64 src, .int .i64 dst, .int .i64 term, .int .i64 index, .int .i64 last, .int .i64 commit, .bool ok, .slice p0 (es.map Prod.fst).length p1, .int .i64 sindex, .int .i64 sterm, B sset, .slice p2 sdata.length p3, .slice p4 data.length p5] → wr.cell? ⟨gx, 1 + k, none⟩ = some (.int .i64 (([src, dst, term, index, last, commit] : List Int)[k]))) := fun k h wr hb => by
    rcases (show k = 0 ∨ k = 1 ∨ k = 2 ∨ k = 3 ∨ k = 4 ∨ k = 5 by simp at h; omega) with rfl | rfl | rfl | rfl | rfl | rfl <;> exact hb.cell rfl
  go_loopw [5, 30] (fun _ i wr => ∃ (k : Nat) (a3 : Option Addr) (c3 : Nat), k ≤ 6 ∧ i = .int .i64 k ∧ Hid (Cw wr D g a3 c3 ((bs ++ [kindB kind]) ++ (([src, dst, term, index, last, commit] : List Int).take k).flatMap be8)) ∧ Hid (Grew g a a3 w wr)) (fun _ i _ => 6 - (intOf i).toNat)
  case atStart => exact ⟨0, a1, c1, by omega, rfl, by show Cw _ _ _ _ _ _; simpa using HC.out, HG.out⟩
  case round =>
    obtain ⟨k, a3, c3, hk, rfl, hcw, hgr⟩ := hrel
    have hDr : D ≤ wr.heap.size := Nat.le_trans hD hgr.out.size
    have hofa := hgr.out.off HO.out.2.1 HO.out.2.2
    by_cases hlt : k < 6
    · have hkv : k < ([src, dst, term, index, last, commit] : List Int).length := hlt
      have hbw := HX0.out.grew (by simp) hgr.out HO.out.1 HO.out.2.2
      have hll : ((bs ++ [kindB kind]) ++ (([src, dst, term, index, last, commit] : List Int).take k).flatMap be8).length ≤ 2000000 := by
        have h1 : ((([src, dst, term, index, last, commit] : List Int).take k).flatMap be8).length = (([src, dst, term, index, last, commit] : List Int).take k).length * 8 := flatMap_len8 _
        rw [List.length_append, h1, List.length_take]
        first | omega | (simp only [List.length_append, List.length_cons, List.length_nil]; omega)
      have HNW := Lib.hid (number_w D g gx (1 + k) c3 a3 _ _ wr hcw.out hDr (HCL.out k hkv wr hbw) HO.out.1 hofa (by omega))
      have HTK := Lib.hid (show (bs ++ [kindB kind]) ++ (([src, dst, term, index, last, commit] : List Int).take (k + 1)).flatMap be8 = ((bs ++ [kindB kind]) ++ (([src, dst, term, index, last, commit] : List Int).take k).flatMap be8) ++ be8 (([src, dst, term, index, last, commit] : List Int)[k]'hkv) by rw [List.take_succ_eq_append_getElem hkv, List.flatMap_append, List.flatMap_singleton]; simp only [List.append_assoc])
      generalize ([src, dst, term, index, last, commit] : List Int)[k]'hkv = vk at HNW HTK
      have hidx : ∀ w, (Instr.index 176 (.agg #[.pointer (some ⟨gx, 1, none⟩), .pointer (some ⟨gx, 2, none⟩), .pointer (some ⟨gx, 3, none⟩), .pointer (some ⟨gx, 4, none⟩), .pointer (some ⟨gx, 5, none⟩), .pointer (some ⟨gx, 6, none⟩)]) (.int .i64 k)).run Try.prog w = .ok (.pointer (some ⟨gx, 1 + k, none⟩)) w := fun _ => by
        clear hcw hgr HNW HTK hll hkv hbw hofa hDr
        rcases (show k = 0 ∨ k = 1 ∨ k = 2 ∨ k = 3 ∨ k = 4 ∨ k = 5 by omega) with rfl | rfl | rfl | rfl | rfl | rfl <;> kernel_rfl
      clear hll hkv hbw
      go_wp2_with (go_at_call 79; ((with_reducible refine HNW.out.mono ?_); rintro en w4 ⟨a4, c4, rfl, hcw4, hgr4⟩; have HC4 := Lib.hid hcw4; have HG4 := Lib.hid hgr4; clear hcw4 hgr4))
      exact ⟨⟨k + 1, a4, c4, by omega, by go_num, by show Cw _ _ _ _ _ _; rw [HTK.out]; exact HC4.out, hgr.out.trans HG4.out⟩, by simp [intOf]; omega⟩
    · obtain rfl : k = 6 := by omega
      have HC' := hcw
      have HG' := hgr
      have HX' := Lib.hid (HX0.out.grew (by simp) hgr.out HO.out.1 HO.out.2.2)
      have HRW := Lib.hid (HRL.out _ _ trivial hgr.out)
      clear HC HG HR hcw hgr hDr hofa
      have HC := HC'
      have HG := HG'
      have HX := HX'
      have HR := HRW
      have hmf : ∀ (fn : Fn) (first cap : Array Value) (w : World), (Instr.makeFunc fn first cap).run Try.prog w = .ok (.func fn first cap) w := fun _ _ _ _ => rfl
      have hl8 := flatMap_len8 ([src, dst, term, index, last, commit])
      simp only [List.take_of_length_le (show ([src, dst, term, index, last, commit] : List Int).length ≤ 6 from Nat.le_refl _)] at HC
      generalize hB : (bs ++ [kindB kind]) ++ ([src, dst, term, index, last, commit] : List Int).flatMap be8 = b1 at HC
      have hbl : b1.length ≤ 1000081 := by rw [← hB, List.length_append, List.length_append, hl8]; simp; omega
      have HBB := Lib.hid hB
      clear hB hl8
      go_wp2_with (first
        | (go_at_call 84; ((with_reducible refine (truth_w D g gx 7 _ _ _ ok _ HC.out (Nat.le_trans hD HG.out.size) (HX.out.cell (j := 7) (by simp)) (HX.out.froz (j := 7) (by simp)) HO.out.1 (HG.out.off HO.out.2.1 HO.out.2.2) (by first | omega | (simp only [List.length_append, List.length_cons, List.length_nil]; omega))).mono ?_); rintro en w1 ⟨a1, c1, rfl, hcw1, hgr1⟩; replace HX := Lib.hid (HX.out.grew (by simp) hgr1 HO.out.1 (HG.out.off HO.out.2.1 HO.out.2.2)); replace HR := Lib.hid (HR.out.grew HC.out hgr1); replace HG := Lib.hid (HG.out.trans hgr1); replace HC := Lib.hid hcw1; clear hcw1 hgr1))
        | (go_at_call 98; ((with_reducible refine (listent_w D g gx 8 _ _ p1 _ p0 _ es _ HC.out (Nat.le_trans hD HG.out.size) (HX.out.cell (j := 8) (by simp)) HLN.out.symm HR.out.row0 HO.out.1 (HG.out.off HO.out.2.1 HO.out.2.2) (by first | omega | (simp only [List.length_append, List.length_cons, List.length_nil]; omega)) hle (by rw [HLN.out]; exact hlm) (fun y hy => ⟨HR.out.each y hy, HOK.out y hy⟩)).mono ?_); rintro en w1 ⟨a1, c1, rfl, hcw1, hgr1⟩; replace HX := Lib.hid (HX.out.grew (by simp) hgr1 HO.out.1 (HG.out.off HO.out.2.1 HO.out.2.2)); replace HR := Lib.hid (HR.out.grew HC.out hgr1); replace HG := Lib.hid (HG.out.trans hgr1); replace HC := Lib.hid hcw1; clear hcw1 hgr1))
        | (go_at_call 79; ((with_reducible refine (number_w D g gx 9 _ _ _ sindex _ HC.out (Nat.le_trans hD HG.out.size) (HX.out.cell (j := 9) (by simp)) HO.out.1 (HG.out.off HO.out.2.1 HO.out.2.2) (by first | omega | (simp only [List.length_append, be8_length, List.length_cons, List.length_nil]; omega))).mono ?_); rintro en w1 ⟨a1, c1, rfl, hcw1, hgr1⟩; replace HX := Lib.hid (HX.out.grew (by simp) hgr1 HO.out.1 (HG.out.off HO.out.2.1 HO.out.2.2)); replace HR := Lib.hid (HR.out.grew HC.out hgr1); replace HG := Lib.hid (HG.out.trans hgr1); replace HC := Lib.hid hcw1; clear hcw1 hgr1))
        | (go_at_call 79; ((with_reducible refine (number_w D g gx 10 _ _ _ sterm _ HC.out (Nat.le_trans hD HG.out.size) (HX.out.cell (j := 10) (by simp)) HO.out.1 (HG.out.off HO.out.2.1 HO.out.2.2) (by first | omega | (simp only [List.length_append, be8_length, List.length_cons, List.length_nil]; omega))).mono ?_); rintro en w1 ⟨a1, c1, rfl, hcw1, hgr1⟩; replace HX := Lib.hid (HX.out.grew (by simp) hgr1 HO.out.1 (HG.out.off HO.out.2.1 HO.out.2.2)); replace HR := Lib.hid (HR.out.grew HC.out hgr1); replace HG := Lib.hid (HG.out.trans hgr1); replace HC := Lib.hid hcw1; clear hcw1 hgr1))
        | (go_at_call 81; ((with_reducible refine (small_w D g gx 11 _ _ _ sset _ HC.out (Nat.le_trans hD HG.out.size) (HX.out.cell (j := 11) (by simp)) HO.out.1 (HG.out.off HO.out.2.1 HO.out.2.2) (by first | omega | (simp only [List.length_append, be8_length, List.length_cons, List.length_nil]; omega))).mono ?_); rintro en w1 ⟨a1, c1, rfl, hcw1, hgr1⟩; replace HX := Lib.hid (HX.out.grew (by simp) hgr1 HO.out.1 (HG.out.off HO.out.2.1 HO.out.2.2)); replace HR := Lib.hid (HR.out.grew HC.out hgr1); replace HG := Lib.hid (HG.out.trans hgr1); replace HC := Lib.hid hcw1; clear hcw1 hgr1))
        | (go_at_call 82; ((with_reducible refine (bytes_w D g gx 12 _ sdata.length p3 _ p2 _ sdata _ HC.out (Nat.le_trans hD HG.out.size) (HX.out.cell (j := 12) (by simp)) rfl HR.out.row1 HO.out.1 (HG.out.off HO.out.2.1 HO.out.2.2) (by first | omega | (simp only [List.length_append, be8_length, List.length_cons, List.length_nil]; omega)) (by omega)).mono ?_); rintro en w1 ⟨a1, c1, rfl, hcw1, hgr1⟩; replace HX := Lib.hid (HX.out.grew (by simp) hgr1 HO.out.1 (HG.out.off HO.out.2.1 HO.out.2.2)); replace HR := Lib.hid (HR.out.grew HC.out hgr1); replace HG := Lib.hid (HG.out.trans hgr1); replace HC := Lib.hid hcw1; clear hcw1 hgr1))
        | (go_at_call 82; ((with_reducible refine (bytes_w D g gx 13 _ data.length p5 _ p4 _ data _ HC.out (Nat.le_trans hD HG.out.size) (HX.out.cell (j := 13) (by simp)) rfl HR.out.row2 HO.out.1 (HG.out.off HO.out.2.1 HO.out.2.2) (by first | omega | (simp only [List.length_append, be8_length, List.length_cons, List.length_nil]; omega)) (by omega)).mono ?_); rintro en w1 ⟨a1, c1, rfl, hcw1, hgr1⟩; replace HX := Lib.hid (HX.out.grew (by simp) hgr1 HO.out.1 (HG.out.off HO.out.2.1 HO.out.2.2)); replace HR := Lib.hid (HR.out.grew HC.out hgr1); replace HG := Lib.hid (HG.out.trans hgr1); replace HC := Lib.hid hcw1; clear hcw1 hgr1)))
      first | go_end0 | refine bodyPost_ret (results_none rfl _ _ _) rfl ?_
      refine ⟨a1, c1, rfl, ?_, HG.out⟩
      have hc := HC.out
      rw [← HBB.out, ← HLN.out] at hc
      simp only [List.append_assoc, List.flatMap_cons, List.flatMap_nil, List.append_nil] at hc
      unfold encWMsg
      simp only [List.append_assoc, map_flat]
      exact hc
end Go.Proofs.Ytlckgnemmffdkaa
