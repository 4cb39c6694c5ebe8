/- An entry out of bytes; an entry behind a writer's bytes. -/
import Derived.Test.YtlckgnemmffdkaaWirCrA
import Derived.Test.YtlckgnemmffdkaaWirCwY
namespace Go.Proofs.Ytlckgnemmffdkaa
open Go.ChangeShapes Go.WideShapes Go.ChangeAt Go.RowKit
set_option maxRecDepth 100000

theorem step_ok {α β : Type} {X : Got β} {y : Got α} {f : α → Nat → Got β} {v : α} {q : Nat} (h : X = bindP y f) (hy : y = .ok (v, q)) : X = f v q := by rw [h, hy]; rfl
theorem step_bad {α β : Type} {X : Got β} {y : Got α} {f : α → Nat → Got β} {e : Nat} (h : X = bindP y f) (hy : y = .error e) : X = .error e := by rw [h, hy]; rfl
/-- A row of new memory. -/
structure FarRow (W w : World) (a : Option Addr) (xs : List Value) : Prop where
  row : Row w a xs
  far : xs ≠ [] → ∀ b o s, a = some ⟨b, o, s⟩ → W.heap.size ≤ b
theorem FarRow.block {W w w' : World} {a : Option Addr} {xs : List Value} (h : FarRow W w a xs) (hk : ∀ k, W.heap.size ≤ k → k < w.heap.size → (∀ o s, a = some ⟨k, o, s⟩ → w'.heap[k]? = w.heap[k]?)) : FarRow W w' a xs := ⟨by
  by_cases h0 : xs = []
  · exact .inl h0
  · rcases h.row with h1 | ⟨b, o, rfl, hc⟩
    · exact absurd h1 h0
    · have hlt := Row.lt (.inr ⟨b, o, rfl, hc⟩) h0
      exact .inr ⟨b, o, rfl, fun i hi => by rw [World.cell?_of_block (w := w) (hk b (h.far h0 b o none rfl) hlt o none rfl)]; exact hc i hi⟩, h.far⟩
theorem FarRow.turn {W w w' : World} {g gx : Nat} {a : Option Addr} {xs : List Value} (h : FarRow W w a xs) (ht : Turn g gx w w') (hg : g < W.heap.size) (hx : gx < W.heap.size) : FarRow W w' a xs :=
  h.block fun k h1 h2 _ _ _ => ht.block k h2 (by omega)
theorem FarRow.below {W w w' : World} {a : Option Addr} {xs : List Value} (h : FarRow W w a xs) (hb : Below w.heap.size w w') : FarRow W w' a xs := h.block fun k _ h2 _ _ _ => hb.block k h2
theorem FarRow.mono {W W' w : World} {a : Option Addr} {xs : List Value} (h : FarRow W w a xs) (hw : W'.heap.size ≤ W.heap.size) : FarRow W' w a xs := ⟨h.row, fun h0 b o s e => Nat.le_trans hw (h.far h0 b o s e)⟩
theorem FarRow.keep {S : Nat → Prop} {W w w' : World} {a : Option Addr} {xs : List Value} (h : FarRow W w a xs) (hk : Keep S w w') (hs : ∀ k, S k → k < W.heap.size) : FarRow W w' a xs := h.block fun k h1 h2 _ _ _ => hk.block k h2 (fun e => by have := hs k e; omega)
theorem FarRow.nil (W w : World) (a : Option Addr) : FarRow W w a [] := ⟨.inl rfl, fun h => absurd rfl h⟩
theorem inI_of {n : Int} (h : -9223372036854775808 ≤ n ∧ n ≤ 9223372036854775807) : InI n := by unfold InI; omega
theorem kindIn_of {n : Int} (h : -128 ≤ n ∧ n ≤ 127) : KindIn n := by unfold KindIn; omega
theorem short_of {n c : Nat} (h : n ≤ c) (h2 : c ≤ maxLen) : Short n := by
  have := lt_maxLen (Nat.le_trans h h2)
  unfold Short; omega
abbrev PEnt := Option Addr × Nat
abbrev cellsEnt (v : WEnt) (p : PEnt) : List Value := [.int .i64 v.term, .int .i8 v.kind, .int .i64 v.stamp, B v.set, .slice p.1 v.data.length p.2]
def valEnt (v : WEnt) (p : PEnt) : Value := .agg #[.int .i64 v.term, .int .i8 v.kind, .int .i64 v.stamp, B v.set, .slice p.1 v.data.length p.2]
/-- An entry's bytes lie in new memory. -/
structure MemEnt (W w : World) (v : WEnt) (p : PEnt) : Prop where
  row : FarRow W w p.1 (v.data.map B)
  le : v.data.length ≤ p.2
theorem MemEnt.keep {S : Nat → Prop} {W w w' : World} {v : WEnt} {p : PEnt} (h : MemEnt W w v p) (hk : Keep S w w') (hs : ∀ k, S k → k < W.heap.size) : MemEnt W w' v p := ⟨h.row.keep hk hs, h.le⟩
theorem MemEnt.mono {W W' w : World} {v : WEnt} {p : PEnt} (h : MemEnt W w v p) (hw : W'.heap.size ≤ W.heap.size) : MemEnt W' w v p := ⟨h.row.mono hw, h.le⟩
theorem MemEnt.below {W w w' : World} {v : WEnt} {p : PEnt} (h : MemEnt W w v p) (hb : Below w.heap.size w w') : MemEnt W w' v p := ⟨h.row.below hb, h.le⟩
theorem MemEnt.turnE {W w w' : World} {v : WEnt} {p : PEnt} {g : Nat} (h : MemEnt W w v p) (ht : Turn g g w w') (hg : g < W.heap.size) : MemEnt W w' v p := ⟨h.row.turn ht hg hg, h.le⟩
def zEnt : WEnt := ⟨0, 0, 0, 0, []⟩
def pzEnt : PEnt := (none, 0)
theorem memzEnt (W w : World) : MemEnt W w zEnt pzEnt := ⟨FarRow.nil _ _ _, Nat.le_refl _⟩
def IsEnt (w0 : World) (gx : Nat) (v : WEnt) (w' : World) : Prop := ∃ p : PEnt, Box w' gx [.int .i64 v.term, .int .i8 v.kind, .int .i64 v.stamp, B v.set, .slice p.1 v.data.length p.2] ∧ MemEnt w0 w' v p
set_option maxHeartbeats 2000000 in
theorem entry_t (g c p gx : Nat) (a : Option Addr) (bs : List UInt8) (w : World) (h : Cr w g a c bs p) (hl : bs.length ≤ 2000000) (hx : Box w gx [.int .i64 0, .int .i8 0, .int .i64 0, .int .u8 0, .slice none 0 0]) (hgx : Off g (rowA a bs) gx) :
    Calls Try.prog 45 #[.pointer (some ⟨g, 0, none⟩), .pointer (some ⟨gx, 0, none⟩)] w (RetT w g gx 5 a c bs (wEntP bs p) (IsEnt w gx)) := by
  have HP := Lib.hid (show wEntP bs p = bindP (numP bs p) fun v0 p => bindP (kindP bs p) fun v1 p => bindP (numP bs p) fun v2 p => bindP (smallP bs p) fun v3 p => bindP (bytesP bs p) fun v4 p => .ok (⟨v0, v1, v2, v3, v4⟩, p) from rfl)
  have HT := Lib.hid (Turn.refl g gx w)
  have HC := Lib.hid h
  have HX := Lib.hid hx
  have HGL := Lib.hid (And.intro (h.box.lt (by simp)) (hx.lt (by simp)))
  clear h hx
  go_enter Try.func45, Try.ntmps45
  go_wp2_with (first
    | (go_at_call 79; ((with_reducible refine (number_t g c _ gx _ a bs _ _ HC.out hl HX.out hgx (by simp)).mono ?_); rintro e w1 ⟨ht, ⟨v, q, hr, rfl, hc, hb⟩ | ⟨f, hr, rfl, hb⟩⟩ <;> replace HT := Lib.hid (Turn.next HT.out ht) <;> first | (replace HP := Lib.hid (step_ok HP.out hr); replace HC := Lib.hid hc; replace HX := Lib.hid hb; clear ht hr hc hb) | (have HB := Lib.hid hb; have HPE := Lib.hid (step_bad HP.out hr); clear ht hr hb)))
    | (go_at_call 81; ((with_reducible refine (small_t g c _ gx _ a bs _ _ HC.out hl HX.out hgx (by simp)).mono ?_); rintro e w1 ⟨ht, ⟨v, q, hr, rfl, hc, hb⟩ | ⟨f, hr, rfl, hb⟩⟩ <;> replace HT := Lib.hid (Turn.next HT.out ht) <;> first | (replace HP := Lib.hid (step_ok HP.out hr); replace HC := Lib.hid hc; replace HX := Lib.hid hb; clear ht hr hc hb) | (have HB := Lib.hid hb; have HPE := Lib.hid (step_bad HP.out hr); clear ht hr hb)))
    | (go_at_call 80; ((with_reducible refine (kind_t g c _ gx _ a bs _ 0 _ HC.out hl HX.out hgx (by simp) (by simp)).mono ?_); rintro e w1 ⟨ht, ⟨v, q, hr, rfl, hc, hb⟩ | ⟨f, hr, rfl, hb⟩⟩ <;> replace HT := Lib.hid (Turn.next HT.out ht) <;> first | (replace HP := Lib.hid (step_ok HP.out hr); replace HC := Lib.hid hc; replace HX := Lib.hid hb; clear ht hr hc hb) | (have HB := Lib.hid hb; have HPE := Lib.hid (step_bad HP.out hr); clear ht hr hb)))
    | (go_at_call 82; ((with_reducible refine (bytes_t g c _ gx _ a bs _ none 0 0 _ HC.out hl HX.out hgx (by simp) (by simp)).mono ?_); rintro e w1 ⟨ht, ⟨v, q, hr, rfl, hc, ad, k, hb, hd, hk, hf⟩ | ⟨f, hr, rfl, hb⟩⟩ <;> have hsz := HT.out.size <;> replace HT := Lib.hid (Turn.next HT.out ht) <;> first | (replace HP := Lib.hid (step_ok HP.out hr); replace HC := Lib.hid hc; replace HX := Lib.hid hb; have HD : Hid (FarRow w w1 ad (v.map B)) := Lib.hid ⟨hd, fun _ b o s e => Nat.le_trans hsz (hf b o s e)⟩; have HK := Lib.hid hk; clear ht hr hc hb hd hk hf hsz) | (have HB := Lib.hid hb; have HPE := Lib.hid (step_bad HP.out hr); clear ht hr hb))))
  all_goals first
    | (go_end0; exact ⟨HT.out, .inl ⟨_, _, HP.out, rfl, HC.out, (ad, k), HX.out, HD.out, HK.out⟩⟩)
    | exact ⟨rfl, HT.out, .inr ⟨_, HPE.out, rfl, HB.out⟩⟩
theorem LowRow.up {g g' : Nat} {w W : World} {a : Option Addr} {xs : List Value} (h : LowRow g w a xs) (hg : g ≤ g') (hb : Below w.heap.size w W) : LowRow g' W a xs := ⟨(h.below hb).row, fun h0 b o s e => by have := h.low h0 b o s e; omega⟩
/-- An entry's bytes lie ahead of the writer. -/
structure LowEnt (g : Nat) (w : World) (v : WEnt) (p : PEnt) : Prop where
  row : LowRow g w p.1 (v.data.map B)
theorem LowEnt.up {g g' : Nat} {w W : World} {v : WEnt} {p : PEnt} (h : LowEnt g w v p) (hg : g ≤ g') (hb : Below w.heap.size w W) : LowEnt g' W v p := ⟨h.row.up hg hb⟩
structure OkEnt (v : WEnt) : Prop where
  kind : KindIn v.kind
  size : (encWEnt v).length ≤ 1000000
set_option maxHeartbeats 2000000 in
theorem entry_w (D g gx c : Nat) (a : Option Addr) (bs : List UInt8) (x : WEnt) (p : PEnt) (w : World) (h : Cw w D g a c bs) (hD : D ≤ w.heap.size) (hx : Box w gx [.int .i64 x.term, .int .i8 x.kind, .int .i64 x.stamp, B x.set, .slice p.1 x.data.length p.2]) (hp : LowEnt g w x p) (hok : OkEnt x) (hgx : gx ≠ g) (hxa : ∀ o s, a ≠ some ⟨gx, o, s⟩) (hn : bs.length ≤ 3000000) :
    Calls Try.prog 45 #[.pointer (some ⟨g, 0, none⟩), .pointer (some ⟨gx, 0, none⟩)] w (RetCw w D g a (bs ++ encWEnt x)) := by
  have hk := hok.kind
  have hn2 : x.data.length ≤ 1000000 := by have := hok.size; unfold encWEnt at this; simp only [List.length_append] at this; omega
  have hr := hp.row
  obtain ⟨ad, k⟩ := p
  simp only at hx hr
  clear hok hp
  have HG := Lib.hid (Grew.refl g a w)
  have HC := Lib.hid h
  have HX := Lib.hid hx
  have HR := Lib.hid hr
  have HKI := Lib.hid (show -128 ≤ x.kind ∧ x.kind < 128 from hk)
  have HO := Lib.hid (And.intro hgx (And.intro (hx.lt (by simp)) hxa))
  clear h hx hr hk hgx hxa
  obtain ⟨term, kind, stamp, set', data⟩ := x
  simp only at HX HR HKI hn2
  go_enter Try.func45, Try.ntmps45
  go_wp2_with (first
    | (go_at_call 79; ((with_reducible refine (number_w D g gx 0 _ _ _ term _ HC.out (Nat.le_trans hD HG.out.size) (HX.out.cell (j := 0) (by simp)) HO.out.1 (HG.out.off HO.out.2.1 HO.out.2.2) (by first | omega | (simp only [List.length_append, be8_length, List.length_cons, List.length_nil]; omega))).mono ?_); rintro en w1 ⟨a1, c1, rfl, hcw1, hgr1⟩; replace HX := Lib.hid (HX.out.grew (by simp) hgr1 HO.out.1 (HG.out.off HO.out.2.1 HO.out.2.2)); replace HR := Lib.hid (HR.out.grew HC.out hgr1); replace HG := Lib.hid (HG.out.trans hgr1); replace HC := Lib.hid hcw1; clear hcw1 hgr1))
    | (go_at_call 79; ((with_reducible refine (number_w D g gx 2 _ _ _ stamp _ HC.out (Nat.le_trans hD HG.out.size) (HX.out.cell (j := 2) (by simp)) HO.out.1 (HG.out.off HO.out.2.1 HO.out.2.2) (by first | omega | (simp only [List.length_append, be8_length, List.length_cons, List.length_nil]; omega))).mono ?_); rintro en w1 ⟨a1, c1, rfl, hcw1, hgr1⟩; replace HX := Lib.hid (HX.out.grew (by simp) hgr1 HO.out.1 (HG.out.off HO.out.2.1 HO.out.2.2)); replace HR := Lib.hid (HR.out.grew HC.out hgr1); replace HG := Lib.hid (HG.out.trans hgr1); replace HC := Lib.hid hcw1; clear hcw1 hgr1))
    | (go_at_call 81; ((with_reducible refine (small_w D g gx 3 _ _ _ set' _ HC.out (Nat.le_trans hD HG.out.size) (HX.out.cell (j := 3) (by simp)) HO.out.1 (HG.out.off HO.out.2.1 HO.out.2.2) (by first | omega | (simp only [List.length_append, be8_length, List.length_cons, List.length_nil]; omega))).mono ?_); rintro en w1 ⟨a1, c1, rfl, hcw1, hgr1⟩; replace HX := Lib.hid (HX.out.grew (by simp) hgr1 HO.out.1 (HG.out.off HO.out.2.1 HO.out.2.2)); replace HR := Lib.hid (HR.out.grew HC.out hgr1); replace HG := Lib.hid (HG.out.trans hgr1); replace HC := Lib.hid hcw1; clear hcw1 hgr1))
    | (go_at_call 80; ((with_reducible refine (kind_w D g gx 1 _ _ _ kind _ HC.out (Nat.le_trans hD HG.out.size) (HX.out.cell (j := 1) (by simp)) (HX.out.froz (j := 1) (by simp)) HKI.out HO.out.1 (HG.out.off HO.out.2.1 HO.out.2.2) (by first | omega | (simp only [List.length_append, be8_length, List.length_cons, List.length_nil]; omega))).mono ?_); rintro en w1 ⟨a1, c1, rfl, hcw1, hgr1⟩; replace HX := Lib.hid (HX.out.grew (by simp) hgr1 HO.out.1 (HG.out.off HO.out.2.1 HO.out.2.2)); replace HR := Lib.hid (HR.out.grew HC.out hgr1); replace HG := Lib.hid (HG.out.trans hgr1); replace HC := Lib.hid hcw1; clear hcw1 hgr1))
    | (go_at_call 82; ((with_reducible refine (bytes_w D g gx 4 _ data.length k _ ad _ data _ HC.out (Nat.le_trans hD HG.out.size) (HX.out.cell (j := 4) (by simp)) rfl HR.out HO.out.1 (HG.out.off HO.out.2.1 HO.out.2.2) (by first | omega | (simp only [List.length_append, be8_length, List.length_cons, List.length_nil]; omega)) (by omega)).mono ?_); rintro en w1 ⟨a1, c1, rfl, hcw1, hgr1⟩; replace HG := Lib.hid (HG.out.trans hgr1); replace HC := Lib.hid hcw1; clear hcw1 hgr1)))
  go_end0
  have hc := HC.out
  simp only [List.append_assoc] at hc
  exact ⟨a1, c1, rfl, hc, HG.out⟩
end Go.Proofs.Ytlckgnemmffdkaa
