import Derived.Test.YtlckgnemmffdkaaPackWireMessage1
import Derived.Test.YtlckgnemmffdkaaWirThings
import Derived.Deep.Cut
import Derived.Recover
import Derived.WalkSmall
import Derived.Test.YtlckgnemmffdkaaWirNum
import Derived.Deep.QuietTactic
import Derived.BigQuiet
set_option linter.unusedVariables false
set_option linter.unusedSimpArgs false
/- A reader of bytes: what it holds, what becomes of the world; so many bytes taken. -/
namespace Go.Proofs.Ytlckgnemmffdkaa
open Go.ChangeShapes Go.WideShapes Go.ChangeAt Go.RowKit
set_option maxRecDepth 100000

/-- Of the blocks that stood, those in S alone may have turned. -/
structure Keep (S : Nat → Prop) (w w' : World) : Prop where
  os : w'.os = w.os
  tape : w'.tape = w.tape
  output : w'.output = w.output
  size : w.heap.size ≤ w'.heap.size
  block : ∀ k, k < w.heap.size → ¬ S k → w'.heap[k]? = w.heap[k]?
theorem Keep.refl (S : Nat → Prop) (w : World) : Keep S w w := ⟨rfl, rfl, rfl, Nat.le_refl _, fun _ _ _ => rfl⟩
theorem Keep.trans {S : Nat → Prop} {w w' w'' : World} (h : Keep S w w') (h2 : Keep S w' w'') : Keep S w w'' :=
  ⟨h2.os.trans h.os, h2.tape.trans h.tape, h2.output.trans h.output, Nat.le_trans h.size h2.size, fun k hk hn => (h2.block k (Nat.lt_of_lt_of_le hk h.size) hn).trans (h.block k hk hn)⟩
theorem Keep.mono {S S' : Nat → Prop} {w w' : World} (h : Keep S w w') (hs : ∀ k, k < w.heap.size → S k → S' k) : Keep S' w w' := ⟨h.os, h.tape, h.output, h.size, fun k hk hn => h.block k hk (fun e => hn (hs k hk e))⟩
theorem Keep.of {S : Nat → Prop} {w w' : World} (h : Below w.heap.size w w') : Keep S w w' := ⟨h.os, h.tape, h.output, h.size, fun k hk _ => h.block k hk⟩
theorem Keep.bel {S : Nat → Prop} {w w' : World} {b : Nat} (h : Keep S w w') (hb : b ≤ w.heap.size) (hs : ∀ k, S k → b ≤ k) : Below b w w' := ⟨h.os, h.tape, h.output, h.size, fun k hk => h.block k (by omega) (fun e => by have := hs k e; omega)⟩
theorem Keep.set {S : Nat → Prop} {w w' : World} (h : Keep S w w') (p : Addr) (v : Value) (hp : S p.block) : Keep S w (w'.setCell p v) :=
  h.trans ⟨rfl, rfl, rfl, by simp, fun k _ hn => Below.heap_setCell _ _ _ _ (fun e => hn (e ▸ hp))⟩
theorem Box.keep {S : Nat → Prop} {w w' : World} {g : Nat} {cs : List Value} (h : Box w g cs) (h0 : 0 < cs.length) (hk : Keep S w w') (hn : ¬ S g) : Box w' g cs := h.block (hk.block g (h.lt h0) hn)
theorem Row.keep {S : Nat → Prop} {w w' : World} {a : Option Addr} {xs : List Value} (h : Row w a xs) (hk : Keep S w w') (hn : ∀ b o s, a = some ⟨b, o, s⟩ → ¬ S b) : Row w' a xs := by
  by_cases h0 : xs = []
  · exact .inl h0
  · rcases h with h | ⟨b, o, rfl, hc⟩
    · exact absurd h h0
    · have hlt := Row.lt (.inr ⟨b, o, rfl, hc⟩) h0
      exact .inr ⟨b, o, rfl, fun i hi => by rw [World.cell?_of_block (w := w) (hk.block b hlt (hn b o none rfl))]; exact hc i hi⟩
/-- The row that the bytes lie in: none where there are none. -/
def rowA (a : Option Addr) (bs : List UInt8) : Option Addr := if bs = [] then none else a
theorem rowA_some {a : Option Addr} {bs : List UInt8} {p : Addr} (h : a = some p) (h0 : bs ≠ []) : rowA a bs = some p := by unfold rowA; rw [if_neg h0]; exact h
theorem RowB.keepA {S : Nat → Prop} {w w' : World} {a : Option Addr} {bs : List UInt8} (h : RowB w a bs) (hk : Keep S w w') (hn : ∀ b o s, rowA a bs = some ⟨b, o, s⟩ → ¬ S b) : RowB w' a bs := by
  by_cases h0 : bs = []
  · exact .inl (by rw [h0]; rfl)
  · exact Row.keep h hk (fun b o s e => hn b o s (rowA_some e h0))
/-- The reader at g goes over the bytes and stands at p; their row lies ahead of it. -/
structure Cr (w : World) (g : Nat) (a : Option Addr) (c : Nat) (bs : List UInt8) (p : Nat) : Prop where
  box : Box w g [.slice a bs.length c, .int .i64 p, .bool true]
  row : RowB w a bs
  le : p ≤ bs.length
  cap : bs.length ≤ c
  low : ∀ b o s, rowA a bs = some ⟨b, o, s⟩ → b < g
/-- A block that is neither the reader's nor its row's. -/
structure Off (g : Nat) (a : Option Addr) (k : Nat) : Prop where
  ne : k ≠ g
  far : ∀ o s, a ≠ some ⟨k, o, s⟩
theorem Cr.keep {S : Nat → Prop} {w w' : World} {g : Nat} {a : Option Addr} {c : Nat} {bs : List UInt8} {p : Nat} (h : Cr w g a c bs p) (hk : Keep S w w') (hs : ∀ k, S k → Off g (rowA a bs) k) : Cr w' g a c bs p :=
  ⟨h.box.keep (by simp) hk (fun e => (hs g e).ne rfl), RowB.keepA h.row hk (fun b o s e e2 => (hs b e2).far o s e), h.le, h.cap, h.low⟩
theorem Cr.new {w : World} {g : Nat} {a : Option Addr} {c : Nat} {bs : List UInt8} {p : Nat} (h : Cr w g a c bs p) {k : Nat} (hk : w.heap.size ≤ k) : Off g (rowA a bs) k := by
  have h1 := h.box.lt (by simp)
  exact ⟨by omega, fun o s e => by have := h.low k o s e; omega⟩
theorem Cr.below {w w' : World} {g : Nat} {a : Option Addr} {c : Nat} {bs : List UInt8} {p : Nat} (h : Cr w g a c bs p) (hb : Below w.heap.size w w') : Cr w' g a c bs p := h.keep (S := fun k => w.heap.size ≤ k) (.of hb) (fun k hk => h.new hk)
/-- The reader's place is stored anew. -/
theorem Cr.move {w : World} {g : Nat} {a : Option Addr} {c : Nat} {bs : List UInt8} {p : Nat} (h : Cr w g a c bs p) {q : Nat} (hq : q ≤ bs.length) : Cr (w.setCell ⟨g, 1, none⟩ (.int .i64 q)) g a c bs q :=
  ⟨h.box.set (i := 1) (by simp) _, RowB.keepA h.row ((Keep.refl (fun k => k = g) w).set _ _ rfl) (fun b o s e e2 => by have := h.low b o s e; omega), hq, h.cap, h.low⟩
/-- What tells the first byte that cannot stand there. -/
abbrev badV (f : Nat) : Ending := .panicked [{ v := .iface 136 (.agg #[.int .i64 f]), recovered := false }]
/-- A reading's end: the thing is there, or the first byte that cannot stand there is told. -/
def RetRd {α : Type} (w : World) (g : Nat) (a : Option Addr) (c : Nat) (bs : List UInt8) (S : Nat → Prop) (r : Got α) (OK : α → World → Prop) (BAD : World → Prop) (e : Ending) (w' : World) : Prop :=
  Keep S w w' ∧ ((∃ x q, r = .ok (x, q) ∧ e = .returned (.tuple #[]) ∧ Cr w' g a c bs q ∧ OK x w') ∨ (∃ f, r = .error f ∧ e = badV f ∧ BAD w'))
def RetNeed (w : World) (g : Nat) (a : Option Addr) (c : Nat) (bs : List UInt8) (k q : Nat) (l : List UInt8) (e : Ending) (w' : World) : Prop := ∃ a', e = .returned (.slice a' k k) ∧ RowB w' a' l ∧ Cr w' g a c bs q ∧ Keep (fun b => b = g) w w'
set_option maxHeartbeats 1000000 in
theorem need_bad (g c p k : Nat) (a : Option Addr) (bs : List UInt8) (w : World) (h : Cr w g a c bs p) (hl : bs.length ≤ 2000000) (hs : bs.length - p < k) :
    Calls Try.prog 99 #[.pointer (some ⟨g, 0, none⟩), .int .i64 k] w (fun e w' => e = badV bs.length ∧ Below w.heap.size w w') := by
  have k0 := h.box.cell (j := 0) rfl
  have k1 := h.box.cell (j := 1) rfl
  have hle := h.le
  have d1 : decide ((bs.length : Int) - p < k) = true := decide_eq_true (by omega)
  clear h
  go_enter Try.func99, Try.ntmps99
  go_upto_region 1 with (fail)
  go_quiet (fail)
  go_wp2_with fail
  exact ⟨rfl, rfl, below_drewN (Below.refl w.heap.size w) nq⟩
set_option maxHeartbeats 1000000 in
theorem need_some (g c p k b o : Nat) (bs : List UInt8) (w : World) (h : Cr w g (some ⟨b, o, none⟩) c bs p) (hl : bs.length ≤ 2000000) (hs : ¬ bs.length - p < k) (hk : 0 < k) :
    Calls Try.prog 99 #[.pointer (some ⟨g, 0, none⟩), .int .i64 k] w (RetNeed w g (some ⟨b, o, none⟩) c bs k (p + k) ((bs.drop p).take k)) := by
  have k0 := h.box.cell (j := 0) rfl
  have k1 := h.box.cell (j := 1) rfl
  have z1 := h.box.froz (j := 1) (by simp)
  have hle := h.le
  have hcap := h.cap
  have d1 : decide ((bs.length : Int) - p < k) = false := decide_eq_false (by omega)
  have HC := Lib.hid h
  clear h
  go_enter Try.func99, Try.ntmps99
  go_upto_region 1 with (fail)
  go_quiet (fail)
  go_upto_region 3 with (fail)
  go_quiet (fail)
  go_wp2_with fail
  rename_i nq0
  have hb2 : Below w.heap.size w (w.drewN (nq0 + nq)) := below_drewN (Below.refl w.heap.size w) _
  have hgl : g < w.heap.size := World.block_lt_of_cell? w _ k0
  rw [show p + k - p = k by omega]
  go_ret
  refine ⟨some ⟨b, o + p, none⟩, rfl, ?_, (HC.out.below hb2).move (by omega), (Keep.of hb2).set _ _ rfl⟩
  have h1 := (Row.drop HC.out.row p).take k
  rw [← List.map_drop, ← List.map_take] at h1
  exact (h1.below hb2).keep ((Keep.refl (fun k => k = g) _).set _ _ rfl) (fun x y s e e2 => by simp only [Option.some.injEq, Addr.mk.injEq] at e; have := HC.out.low b o none (rowA_some rfl (by intro h0; rw [h0] at hs; simp at hs; omega)); omega)
set_option maxHeartbeats 1000000 in
theorem need_none (g c p : Nat) (ad : Addr) (bs : List UInt8) (w : World) (h : Cr w g (some ad) c bs p) (hl : bs.length ≤ 2000000) :
    Calls Try.prog 99 #[.pointer (some ⟨g, 0, none⟩), .int .i64 (0 : Nat)] w (RetNeed w g (some ad) c bs 0 p []) := by
  have k0 := h.box.cell (j := 0) rfl
  have k1 := h.box.cell (j := 1) rfl
  have z1 := h.box.froz (j := 1) (by simp)
  have hle := h.le
  have hcap := h.cap
  have d1 : decide ((bs.length : Int) - p < 0) = false := decide_eq_false (by omega)
  have HC := Lib.hid h
  clear h
  go_enter Try.func99, Try.ntmps99
  go_upto_region 1 with (fail)
  go_quiet (fail)
  go_upto_region 3 with (fail)
  go_quiet (fail)
  go_wp2_with fail
  rename_i nq0
  have hb2 : Below w.heap.size w (w.drewN (nq0 + nq)) := below_drewN (Below.refl w.heap.size w) _
  have hgl : g < w.heap.size := World.block_lt_of_cell? w _ k0
  go_ret
  exact ⟨_, rfl, .inl rfl, (HC.out.below hb2).move (by omega), (Keep.of hb2).set _ _ rfl⟩
set_option maxHeartbeats 1000000 in
theorem need_nil (g c : Nat) (w : World) (h : Cr w g none c [] 0) :
    Calls Try.prog 99 #[.pointer (some ⟨g, 0, none⟩), .int .i64 (0 : Nat)] w (RetNeed w g none c [] 0 0 []) := by
  have k0 := h.box.cell (j := 0) rfl
  have k1 := h.box.cell (j := 1) rfl
  have z1 := h.box.froz (j := 1) (by simp)
  have HC := Lib.hid h
  clear h
  go_enter Try.func99, Try.ntmps99
  go_upto_region 1 with (fail)
  go_quiet (fail)
  go_upto_region 3 with (fail)
  go_quiet (fail)
  go_wp2_with fail
  rename_i nq0
  have hb2 : Below w.heap.size w (w.drewN (nq0 + nq)) := below_drewN (Below.refl w.heap.size w) _
  have hgl : g < w.heap.size := World.block_lt_of_cell? w _ k0
  go_ret
  exact ⟨_, rfl, .inl rfl, (HC.out.below hb2).move (by simp), (Keep.of hb2).set _ _ rfl⟩
theorem need_ok (g c p k : Nat) (a : Option Addr) (bs : List UInt8) (w : World) (h : Cr w g a c bs p) (hl : bs.length ≤ 2000000) (hs : ¬ bs.length - p < k) :
    Calls Try.prog 99 #[.pointer (some ⟨g, 0, none⟩), .int .i64 k] w (RetNeed w g a c bs k (p + k) ((bs.drop p).take k)) := by
  rcases h.row with h0 | ⟨b, o, rfl, _⟩
  · have h1 : bs = [] := by simpa using h0
    subst h1
    have h2 := h.le
    obtain rfl : p = 0 := by simpa using h2
    obtain rfl : k = 0 := by simpa using hs
    cases a with
    | none => exact need_nil g c w h
    | some ad =>
      have h3 := need_none g c 0 ad [] w h (by simp)
      simpa using h3
  · by_cases hk : k = 0
    · subst hk
      rw [List.take_zero]
      exact need_none g c p _ bs w h hl
    · exact need_some g c p k b o bs w h hl hs (by omega)
theorem beVal_take1 {l : List UInt8} {k : Nat} (h : k < l.length) : beVal (l.take (k + 1)) = beVal (l.take k) * 256 + l[k].toNat := by
  rw [List.take_succ_eq_append_getElem h, beVal_snoc]
theorem or_step64 {v : Nat} (x : UInt8) (h : v < 72057594037927936) : bits .or .u64 ((v : Int) * 256) (IntKind.u64.wrap (x.toNat : Int)) = ((v * 256 + x.toNat : Nat) : Int) := by
  have hx := x.toNat_lt
  have e3 : IntKind.u64.wrap (x.toNat : Int) = x.toNat := by rw [IntKind.wrap_u64]; omega
  rw [e3]
  have e := u64_or_nat (v * 256) x.toNat (by omega) (by omega)
  have e2 : v * 256 ||| x.toNat = v * 256 + x.toNat := by
    have := Nat.shiftLeft_add_eq_or_of_lt (i := 8) (b := x.toNat) (by omega) v
    rw [Nat.shiftLeft_eq] at this
    simpa using this.symm
  rw [e2] at e
  rw [← e]; norm_cast
def RetNum (w : World) (g gx ox : Nat) (a : Option Addr) (c : Nat) (bs : List UInt8) (p : Nat) (cs : List Value) : Ending → World → Prop := RetRd w g a c bs (fun k => k = g ∨ k = gx) (numP bs p) (fun v w' => Box w' gx (cs.set ox (.int .i64 v))) (fun w' => Box w' gx cs)
set_option maxHeartbeats 1000000 in
theorem number_bad (g c p gx ox : Nat) (a : Option Addr) (bs : List UInt8) (cs : List Value) (w : World) (h : Cr w g a c bs p) (hl : bs.length ≤ 2000000) (hx : Box w gx cs) (hgx : Off g (rowA a bs) gx) (hox : ox < cs.length) (hs : bs.length - p < 8) :
    Calls Try.prog 79 #[.pointer (some ⟨g, 0, none⟩), .pointer (some ⟨gx, ox, none⟩)] w (RetNum w g gx ox a c bs p cs) := by
  have k2 := h.box.cell (j := 2) rfl
  have HC := Lib.hid h
  have HX := Lib.hid hx
  have HNB : Hid (Calls Try.prog 99 #[.pointer (some ⟨g, 0, none⟩), .int .i64 8] w (fun e w' => e = badV bs.length ∧ Below w.heap.size w w')) := need_bad g c p 8 a bs w h hl hs
  clear h hx
  go_enter Try.func79, Try.ntmps79
  go_wp2_with (go_at_call 99; ((with_reducible refine HNB.out.mono ?_); rintro e w1 ⟨rfl, hb⟩; have HB := Lib.hid hb; clear hb))
  have hn : numP bs p = .error bs.length := by unfold numP needP; rw [if_pos hs]; rfl
  exact ⟨rfl, .of HB.out, .inr ⟨_, hn, rfl, HX.out.next (by omega) HB.out⟩⟩
set_option maxHeartbeats 1000000 in
theorem number_ok (g c p gx ox : Nat) (a : Option Addr) (bs : List UInt8) (cs : List Value) (w : World) (h : Cr w g a c bs p) (hl : bs.length ≤ 2000000) (hx : Box w gx cs) (hgx : Off g (rowA a bs) gx) (hox : ox < cs.length) (hs : ¬ bs.length - p < 8) :
    Calls Try.prog 79 #[.pointer (some ⟨g, 0, none⟩), .pointer (some ⟨gx, ox, none⟩)] w (RetNum w g gx ox a c bs p cs) := by
  have k2 := h.box.cell (j := 2) rfl
  have HC := Lib.hid h
  have HX := Lib.hid hx
  have HNEED : Hid (Calls Try.prog 99 #[.pointer (some ⟨g, 0, none⟩), .int .i64 8] w (RetNeed w g a c bs 8 (p + 8) ((bs.drop p).take 8))) := need_ok g c p 8 a bs w h hl hs
  clear h hx
  generalize hL : (bs.drop p).take 8 = l at HNEED
  have hl8 : l.length = 8 := by rw [← hL, List.length_take, List.length_drop]; omega
  have HL := Lib.hid hL
  clear hL
  go_enter Try.func79, Try.ntmps79
  go_wp2_with (go_at_call 99; ((with_reducible refine HNEED.out.mono ?_); rintro e w1 ⟨a1, rfl, hr1, hc1, hk1⟩; have HR1 := Lib.hid hr1; have HC1 := Lib.hid hc1; have HK1 := Lib.hid hk1; clear hr1 hc1 hk1))
  have hgl := HC.out.box.lt (by simp)
  have HX1 := Lib.hid (HX.out.keep (by omega) HK1.out hgx.ne)
  have x1 := HX1.out.cell (List.getElem?_eq_getElem hox)
  have y1 := HX1.out.froz hox
  obtain ⟨b, o, rfl, hcell⟩ := RowB.at HR1.out (k := 0) (by omega)
  have HCELL := Lib.hid hcell
  have hbs := beVal_lt l
  rw [hl8] at hbs
  clear hcell
  go_loop [4, 6, 15] (fun v _ i => ∃ k : Nat, k ≤ 8 ∧ i = .int .i64 k ∧ v = .int .u64 (beVal (l.take k) : Nat)) (fun _ _ i => 8 - (intOf i).toNat)
  case atStart => exact ⟨0, by omega, rfl, rfl⟩
  case round =>
    obtain ⟨k, hk, rfl, rfl⟩ := hrel
    by_cases hlt : k < 8
    · have hcell := HCELL.out k (by omega)
      have hlt2 : beVal (l.take k) < 72057594037927936 := by
        refine Nat.lt_of_lt_of_le (beVal_lt (l.take k)) ?_
        rw [List.length_take, Nat.min_eq_left (by omega)]
        have : 256 ^ k ≤ 256 ^ 7 := Nat.pow_le_pow_right (by decide) (by omega)
        omega
      have HS := Lib.hid (beVal_take1 (l := l) (k := k) (by omega))
      have HO := Lib.hid (or_step64 (l[k]'(by omega)) hlt2)
      generalize l[k]'(by omega) = x at hcell HS HO
      generalize beVal (l.take k) = v at hlt2 HS HO ⊢
      go_wp2
      exact ⟨⟨k + 1, by omega, by go_num, by rw [HO.out, HS.out]⟩, by simp [intOf]; omega⟩
    · obtain rfl : k = 8 := by omega
      rw [List.take_of_length_le (by omega)]
      have HV : Hid (wrap64 (beVal l : Int) = num8 l) := by
        show _ = _
        unfold num8 i64 wrap64
        split <;> omega
      generalize beVal l = v at HV hbs ⊢
      go_wp2
      rw [HV.out]
      go_end0
      have hn : numP bs p = .ok (num8 l, p + 8) := by unfold numP needP; rw [if_neg hs, HL.out]; rfl
      exact ⟨(HK1.out.mono (fun k _ e => .inl e)).set _ _ (.inr rfl), .inl ⟨_, _, hn, rfl, HC1.out.keep ((Keep.refl (fun k => k = gx) _).set _ _ rfl) (fun k e => by subst e; exact hgx), HX1.out.set hox _⟩⟩
theorem number_r (g c p gx ox : Nat) (a : Option Addr) (bs : List UInt8) (cs : List Value) (w : World) (h : Cr w g a c bs p) (hl : bs.length ≤ 2000000) (hx : Box w gx cs) (hgx : Off g (rowA a bs) gx) (hox : ox < cs.length) :
    Calls Try.prog 79 #[.pointer (some ⟨g, 0, none⟩), .pointer (some ⟨gx, ox, none⟩)] w (RetNum w g gx ox a c bs p cs) := by
  by_cases hs : bs.length - p < 8
  · exact number_bad g c p gx ox a bs cs w h hl hx hgx hox hs
  · exact number_ok g c p gx ox a bs cs w h hl hx hgx hox hs
end Go.Proofs.Ytlckgnemmffdkaa

/- A reader of bytes: a byte, a kind, a truth, a count, bytes taken. -/
namespace Go.Proofs.Ytlckgnemmffdkaa
open Go.ChangeShapes Go.WideShapes Go.ChangeAt Go.RowKit
set_option maxRecDepth 100000

/-- Of the blocks that stood, the reader's and the thing's alone may have turned. -/
abbrev Turn (g gx : Nat) (w w' : World) : Prop := Keep (fun k => k = g ∨ k = gx ∨ w.heap.size ≤ k) w w'
theorem Keep.turn {S : Nat → Prop} {g gx : Nat} {w w' : World} (h : Keep S w w') (hs : ∀ k, S k → k = g ∨ k = gx) : Turn g gx w w' := h.mono fun k _ e => by rcases hs k e with e | e; exact .inl e; exact .inr (.inl e)
theorem Turn.refl (g gx : Nat) (w : World) : Turn g gx w w := Keep.refl _ w
theorem Turn.next {g gx : Nat} {w w' w'' : World} (h : Turn g gx w w') (h2 : Turn g gx w' w'') : Turn g gx w w'' := Keep.trans h (h2.mono fun k _ e => by rcases e with e | e | e; exact .inl e; exact .inr (.inl e); exact .inr (.inr (Nat.le_trans h.size e)))
theorem Turn.below {g gx : Nat} {w w' : World} (h : Below w.heap.size w w') : Turn g gx w w' := (Keep.of (S := fun k => w.heap.size ≤ k) h).mono fun k hk e => absurd e (by omega)
/-- A variable that is there, whatever it holds. -/
def Any (w : World) (g n : Nat) : Prop := ∃ cs : List Value, cs.length = n ∧ Box w g cs
theorem Any.of {w : World} {g n : Nat} {cs : List Value} (h : Box w g cs) (hn : cs.length = n) : Any w g n := ⟨cs, hn, h⟩
theorem Any.keep {S : Nat → Prop} {w w' : World} {g n : Nat} (h : Any w g n) (h0 : 0 < n) (hk : Keep S w w') (hn : ¬ S g) : Any w' g n := by
  obtain ⟨cs, hl, hb⟩ := h
  exact ⟨cs, hl, hb.keep (by omega) hk hn⟩
/-- A reading's end, at a variable of n cells. -/
def RetT {α : Type} (w : World) (g gx n : Nat) (a : Option Addr) (c : Nat) (bs : List UInt8) (r : Got α) (OK : α → World → Prop) (e : Ending) (w' : World) : Prop :=
  Turn g gx w w' ∧ ((∃ x q, r = .ok (x, q) ∧ e = .returned (.tuple #[]) ∧ Cr w' g a c bs q ∧ OK x w') ∨ (∃ f, r = .error f ∧ e = badV f ∧ Any w' gx n))
/-- What is read is put into a cell of the variable. -/
abbrev RetPut {α : Type} (val : α → Value) (w : World) (g gx ox : Nat) (a : Option Addr) (c : Nat) (bs : List UInt8) (cs : List Value) (r : Got α) : Ending → World → Prop := RetT w g gx cs.length a c bs r (fun v w' => Box w' gx (cs.set ox (val v)))
theorem number_t (g c p gx ox : Nat) (a : Option Addr) (bs : List UInt8) (cs : List Value) (w : World) (h : Cr w g a c bs p) (hl : bs.length ≤ 2000000) (hx : Box w gx cs) (hgx : Off g (rowA a bs) gx) (hox : ox < cs.length) :
    Calls Try.prog 79 #[.pointer (some ⟨g, 0, none⟩), .pointer (some ⟨gx, ox, none⟩)] w (RetPut (.int .i64) w g gx ox a c bs cs (numP bs p)) :=
  (number_r g c p gx ox a bs cs w h hl hx hgx hox).mono fun e w' h => by
    obtain ⟨hk, h⟩ := h
    refine ⟨hk.turn fun k e => e, ?_⟩
    rcases h with h | ⟨f, h1, h2, h3⟩
    · exact .inl h
    · exact .inr ⟨f, h1, h2, .of h3 rfl⟩
theorem small_no {bs : List UInt8} {p : Nat} (hs : bs.length - p < 1) : smallP bs p = .error bs.length := by unfold smallP needP; rw [if_pos hs]; rfl
theorem small_yes {bs : List UInt8} {p : Nat} (hs : ¬ bs.length - p < 1) : smallP bs p = .ok (((bs.drop p).take 1).headD 0, p + 1) := by unfold smallP needP; rw [if_neg hs]; rfl
set_option maxHeartbeats 1000000 in
theorem small_t (g c p gx ox : Nat) (a : Option Addr) (bs : List UInt8) (cs : List Value) (w : World) (h : Cr w g a c bs p) (hl : bs.length ≤ 2000000) (hx : Box w gx cs) (hgx : Off g (rowA a bs) gx) (hox : ox < cs.length) :
    Calls Try.prog 81 #[.pointer (some ⟨g, 0, none⟩), .pointer (some ⟨gx, ox, none⟩)] w (RetPut B w g gx ox a c bs cs (smallP bs p)) := by
  have k2 := h.box.cell (j := 2) rfl
  have HC := Lib.hid h
  have HX := Lib.hid hx
  by_cases hs : bs.length - p < 1
  · have HNB : Hid (Calls Try.prog 99 #[.pointer (some ⟨g, 0, none⟩), .int .i64 1] w (fun e w' => e = badV bs.length ∧ Below w.heap.size w w')) := need_bad g c p 1 a bs w h hl hs
    clear h hx
    go_enter Try.func81, Try.ntmps81
    go_wp2_with (go_at_call 99; ((with_reducible refine HNB.out.mono ?_); rintro e w1 ⟨rfl, hb⟩; have HB := Lib.hid hb; clear hb))
    exact ⟨rfl, Turn.below HB.out, .inr ⟨_, small_no hs, rfl, .of (HX.out.next (by omega) HB.out) rfl⟩⟩
  · have HNEED : Hid (Calls Try.prog 99 #[.pointer (some ⟨g, 0, none⟩), .int .i64 1] w (RetNeed w g a c bs 1 (p + 1) ((bs.drop p).take 1))) := need_ok g c p 1 a bs w h hl hs
    have HS := Lib.hid (small_yes hs)
    clear h hx
    have hl1 : ((bs.drop p).take 1).length = 1 := by rw [List.length_take, List.length_drop]; omega
    generalize (bs.drop p).take 1 = l at HNEED HS hl1
    obtain ⟨y, rfl⟩ : ∃ y, l = [y] := by
      match l, hl1 with
      | [y], _ => exact ⟨y, rfl⟩
    clear hl1
    go_enter Try.func81, Try.ntmps81
    go_wp2_with (go_at_call 99; ((with_reducible refine HNEED.out.mono ?_); rintro e w1 ⟨a1, rfl, hr1, hc1, hk1⟩; have HX1 := Lib.hid (HX.out.keep (by omega) hk1 hgx.ne); have HC1 := Lib.hid hc1; have HK1 := Lib.hid hk1; obtain ⟨b, o, rfl, hcell⟩ := RowB.at hr1 (k := 0) (by simp); have y0 := hcell 0 (by simp); simp only [Nat.add_zero, List.getElem_cons_zero] at y0; have x1 := HX1.out.cell (List.getElem?_eq_getElem hox); have z1 := HX1.out.froz hox; clear hr1 hc1 hk1 hcell))
    go_end0
    exact ⟨(HK1.out.turn (gx := gx) (fun k e => .inl e)).set _ _ (.inr (.inl rfl)), .inl ⟨_, _, HS.out, rfl, HC1.out.keep ((Keep.refl (fun k => k = gx) _).set _ _ rfl) (fun k e => by subst e; exact hgx), HX1.out.set hox _⟩⟩
end Go.Proofs.Ytlckgnemmffdkaa

/- A byte behind a writer's bytes. -/
namespace Go.Proofs.Ytlckgnemmffdkaa
open Go.ChangeShapes Go.WideShapes Go.ChangeAt Go.RowKit
set_option maxRecDepth 100000

set_option maxHeartbeats 2000000 in
theorem small_w (D g gx ox c : Nat) (a : Option Addr) (bs : List UInt8) (x : UInt8) (w : World) (h : Cw w D g a c bs) (hD : D ≤ w.heap.size) (hx : w.cell? ⟨gx, ox, none⟩ = some (B x)) (hgx : gx ≠ g) (hxa : ∀ o s, a ≠ some ⟨gx, o, s⟩) (hn : bs.length ≤ 10000000) :
    Calls Try.prog 81 #[.pointer (some ⟨g, 0, none⟩), .pointer (some ⟨gx, ox, none⟩)] w (RetCw w D g a (bs ++ [x])) := by
  have hcw := Lib.hid h
  have k0 := h.box.cell (j := 0) rfl
  have k2 := h.box.cell (j := 2) rfl
  have ea : g < w.heap.size := World.block_lt_of_cell? w _ k0
  have eb : gx < w.heap.size := World.block_lt_of_cell? w _ hx
  clear h hgx hxa
  go_enter Try.func81, Try.ntmps81
  go_upto_region 2 with (fail)
  go_region_law (first
    | (refine step_near el_bytes rfl (.tmp 18) (.tmp 22) rfl D a bs.length c (bs.map B) rfl (Can.drew (hcw.out.can.alloc _)) (some ⟨w.heap.size, 0, none⟩) 1 1 [B x] rfl rfl (Row.drew (Row.new _ _ _ _)) (by intro u hu; simp at hu; subst hu; rfl) (by omega) (by simp; omega) (by decide) ?_; intro a2 c2 w2 hcan2 hg2 hn2 hown2; have hst := Cw.step (ns := [x]) hcw.out (((Below.refl _ _).alloc (Nat.le_refl _) _).drew) hD hcan2 hg2 hn2 (own_block hown2) (own_lt hown2); have q0 := hst.1.cell (j := 0) rfl; have z0 := hst.1.froz (j := 0) (show 0 < 3 by decide); have HST := Lib.hid hst.2; clear hst hcan2 hg2 hn2 hown2))
  all_goals
    clear q0 z0
    go_wp2_with fail
    go_end0
    exact ⟨a2, c2, rfl, HST.out.1, HST.out.2⟩
/-- A kind: the byte that it is. -/
theorem kind_byte {k : Int} (h : -128 ≤ k ∧ k < 128) : IntKind.u8.wrap k = ((kindB k).toNat : Int) := by
  unfold kindB
  rw [UInt8.toNat_ofNat', IntKind.wrap_u8]
  omega
end Go.Proofs.Ytlckgnemmffdkaa

/- A writer of bytes: a kind, a truth, a count, bytes put. -/
namespace Go.Proofs.Ytlckgnemmffdkaa
open Go.ChangeShapes Go.WideShapes Go.ChangeAt Go.RowKit
set_option maxRecDepth 100000

/-- A row that lies ahead of the writer. -/
structure LowRow (g : Nat) (w : World) (a : Option Addr) (xs : List Value) : Prop where
  row : Row w a xs
  low : xs ≠ [] → ∀ b o s, a = some ⟨b, o, s⟩ → b < g
theorem LowRow.of {g : Nat} {w : World} {a : Option Addr} {xs : List Value} (h : Row w a xs) (hg : w.heap.size ≤ g) : LowRow g w a xs := ⟨h, fun h0 b o s e => by
  rcases h with h | ⟨b1, o1, rfl, h1⟩
  · exact absurd h h0
  · have := Row.lt (.inr ⟨b1, o1, rfl, h1⟩) h0
    simp only [Option.some.injEq, Addr.mk.injEq] at e; omega⟩
theorem LowRow.block {g : Nat} {w w' : World} {a : Option Addr} {xs : List Value} (h : LowRow g w a xs) (hk : ∀ k, k < g → k < w.heap.size → w'.heap[k]? = w.heap[k]?) : LowRow g w' a xs := ⟨by
  by_cases h0 : xs = []
  · exact .inl h0
  · rcases h.row with h1 | ⟨b, o, rfl, hc⟩
    · exact absurd h1 h0
    · have hlt := Row.lt (.inr ⟨b, o, rfl, hc⟩) h0
      exact .inr ⟨b, o, rfl, fun i hi => by rw [World.cell?_of_block (w := w) (hk b (h.low h0 b o none rfl) hlt)]; exact hc i hi⟩, h.low⟩
theorem LowRow.below {g : Nat} {w w' : World} {a : Option Addr} {xs : List Value} (h : LowRow g w a xs) (hb : Below w.heap.size w w') : LowRow g w' a xs := h.block fun k _ hk => hb.block k hk
theorem LowRow.grew {D g c : Nat} {w w' : World} {a a' ad : Option Addr} {bs : List UInt8} {xs : List Value} (h : LowRow g w ad xs) (hc : Cw w D g a c bs) (hg : Grew g a a' w w') : LowRow g w' ad xs :=
  h.block fun k hk hs => hg.keep k hs (by omega) (fun o s e => by have := hc.far _ _ _ e; have := hc.low; omega)
theorem Grew.pre {g : Nat} {a a' : Option Addr} {w W w' : World} (h : Grew g a a' W w') (hb : Below w.heap.size w W) : Grew g a a' w w' :=
  ⟨h.os.trans hb.os, h.tape.trans hb.tape, h.output.trans hb.output, Nat.le_trans hb.size h.size, fun k hk hg ha => by rw [h.keep k (Nat.lt_of_lt_of_le hk hb.size) hg ha, hb.block k hk], h.near.mono hb.size⟩
theorem Grew.next {g : Nat} {a a' : Option Addr} {w w' w'' : World} (h : Grew g a a' w w') (hb : Below w'.heap.size w' w'') : Grew g a a' w w'' :=
  ⟨hb.os.trans h.os, hb.tape.trans h.tape, hb.output.trans h.output, Nat.le_trans h.size hb.size, fun k hk hg ha => by rw [hb.block k (Nat.lt_of_lt_of_le hk h.size), h.keep k hk hg ha], h.near⟩
set_option maxHeartbeats 1000000 in
theorem kind_w (D g gx ox c : Nat) (a : Option Addr) (bs : List UInt8) (k0 : Int) (w : World) (h : Cw w D g a c bs) (hD : D ≤ w.heap.size) (hx : w.cell? ⟨gx, ox, none⟩ = some (.int .i8 k0)) (hz : w.frozen? ⟨gx, ox, none⟩ = false) (hk0 : -128 ≤ k0 ∧ k0 < 128) (hgx : gx ≠ g) (hxa : ∀ o s, a ≠ some ⟨gx, o, s⟩) (hn : bs.length ≤ 10000000) :
    Calls Try.prog 80 #[.pointer (some ⟨g, 0, none⟩), .pointer (some ⟨gx, ox, none⟩)] w (RetCw w D g a (bs ++ [kindB k0])) := by
  have hgl := World.block_lt_of_cell? w _ hx
  obtain ⟨W, hW⟩ : ∃ W, W = w.alloc (.cells #[.int .u8 (k0 % 256)] 5) := ⟨_, rfl⟩
  have hB : Below w.heap.size w W := by rw [hW]; exact (Below.refl _ _).alloc (Nat.le_refl _) _
  have hT : Box W w.heap.size [.int .u8 (k0 % 256)] := by rw [hW]; exact Box.of_alloc (Below.refl _ _)
  have hkb : Value.int .u8 (k0 % 256) = B (kindB k0) := by rw [B, ← kind_byte hk0, IntKind.wrap_u8]
  have hks : IntKind.i8.wrap (k0 % 256) = k0 := by simp [IntKind.wrap, IntKind.bits, IntKind.signed]; split <;> omega
  have HS : Hid (Calls Try.prog 81 #[.pointer (some ⟨g, 0, none⟩), .pointer (some ⟨w.heap.size, 0, none⟩)] W (RetCw W D g a (bs ++ [kindB k0]))) := small_w D g w.heap.size 0 c a bs (kindB k0) W (h.below hB) (Nat.le_trans hD hB.size) (by rw [← hkb]; exact hT.cell (j := 0) rfl) h.new.1 h.new.2 (by omega)
  have HC := Lib.hid h
  have HB := Lib.hid hB
  have HT := Lib.hid hT
  have HN := Lib.hid h.new
  have HK := Lib.hid hks
  have HO := Lib.hid (And.intro hgx hxa)
  have hxc := (hB.cell (p := ⟨gx, ox, none⟩) hgl).trans hx
  have hxz := (hB.frozen (p := ⟨gx, ox, none⟩) hgl).trans hz
  have HX := Lib.hid (And.intro hxc hxz)
  have HGL := Lib.hid hgl
  clear h hB hT hkb hks hgx hxa hxc hxz
  rw [hW] at HS
  have HW := Lib.hid hW
  clear hW
  go_enter Try.func80, Try.ntmps80
  go_wp2_with (go_at_call 81; ((with_reducible refine HS.out.mono ?_); rw [← HW.out]; rintro e w1 ⟨a1, c1, rfl, hcw1, hgr1⟩; have y0 := (HT.out.grew (by simp) hgr1 HN.out.1 HN.out.2).cell (j := 0) rfl; have y1 := grew_cell hgr1 HX.out.1 HO.out.1 HO.out.2; have hbl := hgr1.keep gx (by have := HB.out.size; have := HGL.out; omega) HO.out.1 HO.out.2; have y2 : w1.frozen? ⟨gx, ox, none⟩ = false := (by have h2 := HX.out.2; simp only [World.frozen?] at h2 ⊢; rw [hbl]; exact h2); have HC1 := Lib.hid hcw1; have HG1 := Lib.hid (hgr1.pre HB.out); clear hcw1 hgr1 hbl))
  rw [HK.out, setCell_id y1]
  go_end0
  exact ⟨a1, c1, rfl, HC1.out, HG1.out⟩
set_option maxHeartbeats 1000000 in
theorem truth_w (D g gx ox c : Nat) (a : Option Addr) (bs : List UInt8) (x : Bool) (w : World) (h : Cw w D g a c bs) (hD : D ≤ w.heap.size) (hx : w.cell? ⟨gx, ox, none⟩ = some (.bool x)) (hz : w.frozen? ⟨gx, ox, none⟩ = false) (hgx : gx ≠ g) (hxa : ∀ o s, a ≠ some ⟨gx, o, s⟩) (hn : bs.length ≤ 10000000) :
    Calls Try.prog 84 #[.pointer (some ⟨g, 0, none⟩), .pointer (some ⟨gx, ox, none⟩)] w (RetCw w D g a (bs ++ [truthB x])) := by
  have hgl := World.block_lt_of_cell? w _ hx
  obtain ⟨W, hW⟩ : ∃ W, W = w.alloc (.cells #[.int .u8 (if x then 1 else 0)] 5) := ⟨_, rfl⟩
  have hB : Below w.heap.size w W := by rw [hW]; exact (Below.refl _ _).alloc (Nat.le_refl _) _
  have hT : Box W w.heap.size [B (truthB x)] := by
    rw [hW]; cases x
    · exact Box.of_alloc (Below.refl _ _)
    · exact Box.of_alloc (Below.refl _ _)
  have HS : Hid (Calls Try.prog 81 #[.pointer (some ⟨g, 0, none⟩), .pointer (some ⟨w.heap.size, 0, none⟩)] W (RetCw W D g a (bs ++ [truthB x]))) := small_w D g w.heap.size 0 c a bs (truthB x) W (h.below hB) (Nat.le_trans hD hB.size) (hT.cell (j := 0) rfl) h.new.1 h.new.2 (by omega)
  have HC := Lib.hid h
  have HB := Lib.hid hB
  have HT := Lib.hid hT
  have HN := Lib.hid h.new
  have HO := Lib.hid (And.intro hgx hxa)
  have hxc := (hB.cell (p := ⟨gx, ox, none⟩) hgl).trans hx
  have hxz := (hB.frozen (p := ⟨gx, ox, none⟩) hgl).trans hz
  have HX := Lib.hid (And.intro hxc hxz)
  have HGL := Lib.hid hgl
  clear h hB hT hgx hxa hxc hxz
  rw [hW] at HS
  have HW := Lib.hid hW
  clear hW
  cases x
  all_goals
    simp only [if_true, Bool.false_eq_true, if_false] at HS HW
    go_enter Try.func84, Try.ntmps84
    go_wp2_with (go_at_call 81; ((with_reducible refine HS.out.mono ?_); rw [← HW.out]; rintro e w1 ⟨a1, c1, rfl, hcw1, hgr1⟩; have y0 := (HT.out.grew (by simp) hgr1 HN.out.1 HN.out.2).cell (j := 0) rfl; have y1 := grew_cell hgr1 HX.out.1 HO.out.1 HO.out.2; have hbl := hgr1.keep gx (by have := HB.out.size; have := HGL.out; omega) HO.out.1 HO.out.2; have y2 : w1.frozen? ⟨gx, ox, none⟩ = false := (by have h2 := HX.out.2; simp only [World.frozen?] at h2 ⊢; rw [hbl]; exact h2); have HC1 := Lib.hid hcw1; have HG1 := Lib.hid (hgr1.pre HB.out); clear hcw1 hgr1 hbl))
    try rw [show Value.bool (((truthB false).toNat : Int) == 1) = .bool false from rfl]
    try rw [show Value.bool (((truthB true).toNat : Int) == 1) = .bool true from rfl]
    rw [setCell_id y1]
    go_end0
    exact ⟨a1, c1, rfl, HC1.out, HG1.out⟩
def RetCount' (w : World) (D g : Nat) (a : Option Addr) (n : Nat) (bs : List UInt8) (e : Ending) (w' : World) : Prop := ∃ a' c', e = .returned (.int .i64 n) ∧ Cw w' D g a' c' bs ∧ Grew g a a' w w'
set_option maxHeartbeats 1000000 in
theorem count_w (D g c size : Nat) (n : Nat) (a : Option Addr) (bs : List UInt8) (w : World) (h : Cw w D g a c bs) (hD : D ≤ w.heap.size) (hn : bs.length ≤ 10000000) :
    Calls Try.prog 100 #[.pointer (some ⟨g, 0, none⟩), .int .i64 n, .int .i64 size] w (RetCount' w D g a n (bs ++ be8 n)) := by
  have x0 := h.box.cell (j := 1) rfl
  have hgl := h.box.lt (by simp)
  obtain ⟨W, hW⟩ : ∃ W, W = w.alloc (.cells #[.int .i64 n] 3) := ⟨_, rfl⟩
  have hB : Below w.heap.size w W := by rw [hW]; exact (Below.refl _ _).alloc (Nat.le_refl _) _
  have hT : Box W w.heap.size [.int .i64 n] := by rw [hW]; exact Box.of_alloc (Below.refl _ _)
  have HS : Hid (Calls Try.prog 79 #[.pointer (some ⟨g, 0, none⟩), .pointer (some ⟨w.heap.size, 0, none⟩)] W (RetCw W D g a (bs ++ be8 n))) := number_w D g w.heap.size 0 c a bs n W (h.below hB) (Nat.le_trans hD hB.size) (hT.cell (j := 0) rfl) h.new.1 h.new.2 hn
  have HT := Lib.hid hT
  have HN := Lib.hid h.new
  have HB := Lib.hid hB
  clear h hB hT
  rw [hW] at HS
  have HW := Lib.hid hW
  clear hW
  go_enter Try.func100, Try.ntmps100
  go_wp2_with (go_at_call 79; ((with_reducible refine HS.out.mono ?_); rw [← HW.out]; rintro e w1 ⟨a1, c1, rfl, hcw1, hgr1⟩; have y0 := (HT.out.grew (by simp) hgr1 HN.out.1 HN.out.2).cell (j := 0) rfl; have y2 := hcw1.box.cell (j := 2) rfl; have HC1 := Lib.hid hcw1; have HG1 := Lib.hid (hgr1.pre HB.out); clear hcw1 hgr1))
  go_quiet (fail)
  go_wp2
  go_ret
  exact ⟨a1, c1, rfl, HC1.out.below (below_drewN (Below.refl w1.heap.size w1) nq), HG1.out.next (below_drewN (Below.refl w1.heap.size w1) nq)⟩
end Go.Proofs.Ytlckgnemmffdkaa

/- Bytes behind a writer's bytes. -/
namespace Go.Proofs.Ytlckgnemmffdkaa
open Go.ChangeShapes Go.WideShapes Go.ChangeAt Go.RowKit
set_option maxRecDepth 100000

/-- One append of the writer's, of any length, in a region that draws its order. -/
theorem step_far {P : Program} {w : World} {ops : Array Oper} {o : Oper} {ac : Act} {K : Act → World → Prop} {Q : Exit → Act → World → Prop} {E : Prop} {t e : TypeId} {size bytes : Nat} (el : Elem P t e size bytes) (hgd : o.guard = none) (s x : Operand)
    (ho : o.op = .call { callee := .builtin .append, args := #[s, x], argTypes := #[t, t] })
    (D : Nat) (a : Option Addr) (n c : Nat) (xs : List Value) (hs : ac.eval s = .slice a n c) (hcan : Can w D e size a n c xs)
    (ad : Option Addr) (m k : Nat) (news : List Value) (hx : ac.eval x = .slice ad m k) (hl : news.length = m * size) (hr : Row w ad news) (h1 : ∀ u ∈ news, u.oneCell' = true)
    (hbytes : (n + m) * bytes ≤ 140737488355328) (hD : D ≤ w.heap.size) (hfar : ∀ b o s, a = some ⟨b, o, s⟩ → D ≤ b ∧ b < w.heap.size)
    (h : ∀ a' c' w', Can w' D e size a' (n + m) c' (xs ++ news) → w.grownBy w' (Value.slice a n c).ownBlock → Near w.heap.size a a' → (∀ b o s, a' = some ⟨b, o, s⟩ → D ≤ b) → (∀ b o s, a' = some ⟨b, o, s⟩ → b < w'.heap.size) → K (ac.put o.dst (.slice a' (n + m) c')) w') :
    if Region.wanted o (yielded ops ac.tmps) = true then Oper.wp P o ac w K Q else E := by
  have hw : Region.wanted o (yielded ops ac.tmps) = true := by simp [Region.wanted, hgd]
  rw [if_pos hw]
  obtain ⟨a', c', w', hrun, h2, h3, h4, h5⟩ := run_can el o.type D a n c xs hcan ad m k news hl hr h1 hbytes hD
  unfold Oper.wp execOp
  simp only [ho, resolve, invoke, builtin, Sem.run_bind, Sem.run_pure, Result.andThen_ok, List.map_toArray, List.map_cons, List.map_nil, hs, hx, hrun]
  by_cases hm : 0 < m
  · have hn := can_near el o.type D a n c xs hcan ad m k news hl hr h1 hbytes hm hrun
    exact h a' c' w' h2 h3 hn (own_block (h5.1 hm)) (own_lt (h5.1 hm))
  · obtain ⟨rfl, -⟩ := h5.2 (by omega)
    exact h a' c' w' h2 h3 (Near.self _ _) (fun b o s e => (hfar b o s e).1) (fun b o s e => Nat.lt_of_lt_of_le (hfar b o s e).2 h3.size)
set_option maxHeartbeats 2000000 in
theorem bytes_w (D g gx ox c m k : Nat) (a ad : Option Addr) (bs ds : List UInt8) (w : World) (h : Cw w D g a c bs) (hD : D ≤ w.heap.size) (hx : w.cell? ⟨gx, ox, none⟩ = some (.slice ad m k)) (hm : ds.length = m) (hr : LowRow g w ad (ds.map B)) (hgx : gx ≠ g) (hxa : ∀ o s, a ≠ some ⟨gx, o, s⟩) (hn : bs.length ≤ 9000000) (hn2 : m ≤ 9000000) :
    Calls Try.prog 82 #[.pointer (some ⟨g, 0, none⟩), .pointer (some ⟨gx, ox, none⟩)] w (RetCw w D g a (bs ++ (be8 ds.length ++ ds))) := by
  have hgl := World.block_lt_of_cell? w _ hx
  have HCO : Hid (Calls Try.prog 100 #[.pointer (some ⟨g, 0, none⟩), .int .i64 m, .int .i64 1] w (RetCount' w D g a m (bs ++ be8 (m : Int)))) := count_w D g c 1 m a bs w h hD (by omega)
  have HC := Lib.hid h
  have HX := Lib.hid (And.intro hx (And.intro hgx hxa))
  have HR := Lib.hid hr
  have HM := Lib.hid hm
  have hlb : (bs ++ be8 (m : Int)).length ≤ 9000008 := by rw [List.length_append, be8_length]; omega
  have HT := Lib.hid (show bs ++ (be8 ds.length ++ ds) = (bs ++ be8 (m : Int)) ++ ds by rw [hm, List.append_assoc])
  clear h hgx hxa hr hm
  generalize bs ++ be8 (m : Int) = l1 at HCO HT hlb
  go_enter Try.func82, Try.ntmps82
  go_upto_region 3 with (go_at_call 100; ((with_reducible refine HCO.out.mono ?_); rintro e w1 ⟨a1, c1, rfl, hcw1, hgr1⟩; have y1 := grew_cell hgr1 HX.out.1 HX.out.2.1 HX.out.2.2; have y2 := hcw1.box.cell (j := 2) rfl; have y0 := hcw1.box.cell (j := 0) rfl; have HR1 := Lib.hid (HR.out.grew HC.out hgr1); have ea : g < w1.heap.size := World.block_lt_of_cell? w1 _ y0; have eb : gx < w1.heap.size := World.block_lt_of_cell? w1 _ y1; have hDr : D ≤ w1.heap.size := Nat.le_trans hD hgr1.size; have HC1 := Lib.hid hcw1; have HG1 := Lib.hid hgr1; clear hcw1 hgr1))
  have z0 := HC1.out.box.froz (j := 0) (show 0 < 3 by decide)
  go_region_law (first
    | (refine step_far el_bytes rfl (.tmp 25) (.tmp 28) rfl D a1 l1.length c1 (l1.map B) rfl (Can.drew HC1.out.can) ad m k (ds.map B) rfl (by rw [List.length_map, HM.out, Nat.mul_one]) (Row.drew HR1.out.row) (bytes_one _) (by omega) (by simp; omega) (fun b o s e => ⟨HC1.out.far b o s e, by have := HC1.out.lt b o s e; simpa using this⟩) ?_; intro a2 c2 w2 hcan2 hg2 hn2 hf2 hl2; rw [← HM.out] at hcan2 ⊢; have hst := Cw.step (ns := ds) HC1.out (Below.refl _ _).drew hDr hcan2 hg2 hn2 hf2 hl2; have q0 := hst.1.cell (j := 0) rfl; have q1 := hst.1.froz (j := 0) (show 0 < 3 by decide); have HST := Lib.hid hst.2; clear hst hcan2 hg2 hn2 hf2 hl2))
  all_goals
    go_end0
    exact ⟨a2, c2, rfl, by rw [HT.out]; exact HST.out.1, HG1.out.trans HST.out.2⟩
end Go.Proofs.Ytlckgnemmffdkaa

/- An answer behind a writer's bytes; an answer as bytes. -/
namespace Go.Proofs.Ytlckgnemmffdkaa
open Go.ChangeShapes Go.WideShapes Go.ChangeAt Go.RowKit
set_option maxRecDepth 100000

set_option maxHeartbeats 4000000 in
theorem answer_w (D g gx c : Nat) (a : Option Addr) (bs : List UInt8) (e rate burst lease size : Int) (w : World) (h : Cw w D g a c bs) (hD : D ≤ w.heap.size) (hx : Box w gx [.int .i64 e, .int .i64 rate, .int .i64 burst, .int .i64 lease, .int .i64 size]) (hgx : gx ≠ g) (hxa : ∀ o s, a ≠ some ⟨gx, o, s⟩) (hn : bs.length ≤ 9000000) :
    Calls Try.prog 59 #[.pointer (some ⟨g, 0, none⟩), .pointer (some ⟨gx, 0, none⟩)] w (fun en w' => RetCw w D g a (bs ++ encWAns ⟨e, rate, burst, lease, size⟩) en w' ∧ Box w' gx [.int .i64 e, .int .i64 rate, .int .i64 burst, .int .i64 lease, .int .i64 size]) := by
  have HC := Lib.hid h
  have HX := Lib.hid hx
  have HN := Lib.hid (And.intro hgx hxa)
  have HNEW := Lib.hid h.new
  have x0 := hx.cell (j := 0) rfl
  have HB8 := Lib.hid be8_length
  clear h hx hgx hxa
  go_enter Try.func59, Try.ntmps59
  have hba : Below w.heap.size w (w.alloc (.cells #[.int .i64 e] 3)) := (Below.refl _ _).alloc (Nat.le_refl _) _
  have HT := Lib.hid (Box.of_alloc (w := w) (cs := [.int .i64 e]) (t := 3) (Below.refl _ _))
  have HXA := Lib.hid (HX.out.next (by simp) hba)
  go_upto_region 3 with (go_at_call 79; have hnw := number_w D g w.heap.size 0 c a bs e (w.alloc (.cells #[.int .i64 e] 3)) (HC.out.below hba) (Nat.le_trans hD hba.size) (HT.out.cell (j := 0) rfl) HNEW.out.1 HNEW.out.2 (by omega); ((with_reducible refine hnw.mono ?_); clear hnw; rintro en w1 ⟨a1, c1, rfl, hcw1, hgr1⟩; have HX1 := Lib.hid (HXA.out.grew (by simp) hgr1 HN.out.1 HN.out.2); have HT1 := Lib.hid (HT.out.grew (by simp) hgr1 HNEW.out.1 HNEW.out.2); have q0 := HX1.out.cell (j := 0) rfl; have z0 := HX1.out.froz (j := 0) (show 0 < 5 by decide); have t0 := HT1.out.cell (j := 0) rfl; have HC1 := Lib.hid hcw1; have HG1 := Lib.hid hgr1; clear hcw1 hgr1))
  rw [setCell_id (HX1.out.cell (j := 0) rfl)]
  clear q0 z0 t0 x0
  go_quiet (fail)
  have HX2 := Lib.hid (HX1.out.below (below_drewN (Below.refl w1.heap.size w1) nq) (HX1.out.lt (by simp)))
  have HC2 := Lib.hid (HC1.out.below (below_drewN (Below.refl w1.heap.size w1) nq))
  have HG2 : Hid (Grew g a a1 w (w1.drewN nq)) := by
    have hb := below_drewN (Below.refl w1.heap.size w1) nq
    have h1 := HG1.out
    refine ⟨hb.os.trans h1.os, hb.tape.trans h1.tape, hb.output.trans h1.output, Nat.le_trans (Nat.le_trans (by simp) h1.size) hb.size, fun k hk hkg hka => ?_, h1.near.mono (by simp)⟩
    rw [hb.block k (Nat.lt_of_lt_of_le hk (Nat.le_trans (by simp) h1.size)), h1.keep k (Nat.lt_of_lt_of_le hk (by simp)) hkg hka]
    exact heap_alloc_old _ _ hk
  generalize w1.drewN nq = w2 at HX2 HC2 HG2 ⊢
  clear HX1 HT1 HC1 HG1
  have HI := Lib.hid (And.intro rate.le_refl rate.le_refl)
  go_wp2
  go_loopw [6, 30] (fun _ i wr => ∃ (k : Nat) (a3 : Option Addr) (c3 : Nat), k ≤ 4 ∧ i = .int .i64 k ∧ Hid (Cw wr D g a3 c3 (bs ++ be8 e ++ ([rate, burst, lease, size].take k).flatMap be8)) ∧ Hid (Grew g a a3 w wr) ∧ Hid (Box wr gx [.int .i64 e, .int .i64 rate, .int .i64 burst, .int .i64 lease, .int .i64 size])) (fun _ i _ => 4 - (intOf i).toNat)
  case atStart => exact ⟨0, a1, c1, by omega, rfl, by show Cw _ _ _ _ _ _; simpa using HC2.out, HG2.out, HX2.out⟩
  case round =>
    obtain ⟨k, a3, c3, hk, rfl, hcw, hgr, hbx⟩ := hrel
    have hDr : D ≤ wr.heap.size := Nat.le_trans hD hgr.out.size
    have hofa := hgr.out.off (HX.out.lt (by simp)) HN.out.2
    by_cases hlt : k < 4
    · rcases (show k = 0 ∨ k = 1 ∨ k = 2 ∨ k = 3 by omega) with rfl | rfl | rfl | rfl
      · have hnw := number_w D g gx 1 c3 a3 _ rate wr hcw.out hDr (hbx.out.cell (j := 1) rfl) HN.out.1 hofa (by simp [be8_length]; omega)
        have HNW := Lib.hid hnw
        clear hnw
        have hidx : ∀ w, (Instr.index 156 (.agg #[.pointer (some ⟨gx, 1, none⟩), .pointer (some ⟨gx, 2, none⟩), .pointer (some ⟨gx, 3, none⟩), .pointer (some ⟨gx, 4, none⟩)]) (.int .i64 0)).run Try.prog w = .ok (.pointer (some ⟨gx, 1, none⟩)) w := fun _ => by kernel_rfl
        go_wp2_with (go_at_call 79; ((with_reducible refine HNW.out.mono ?_); rintro en w4 ⟨a4, c4, rfl, hcw4, hgr4⟩; have HC4 := Lib.hid hcw4; have HG4 := Lib.hid hgr4; have HX4 := Lib.hid (hbx.out.grew (by simp) hgr4 HN.out.1 hofa); clear hcw4 hgr4))
        exact ⟨⟨1, a4, c4, by omega, rfl, by show Cw _ _ _ _ _ _; have h1 := HC4.out; simpa using h1, hgr.out.trans HG4.out, HX4.out⟩, by simp [intOf]⟩
      · have hnw := number_w D g gx 2 c3 a3 _ burst wr hcw.out hDr (hbx.out.cell (j := 2) rfl) HN.out.1 hofa (by simp [be8_length]; omega)
        have HNW := Lib.hid hnw
        clear hnw
        have hidx : ∀ w, (Instr.index 156 (.agg #[.pointer (some ⟨gx, 1, none⟩), .pointer (some ⟨gx, 2, none⟩), .pointer (some ⟨gx, 3, none⟩), .pointer (some ⟨gx, 4, none⟩)]) (.int .i64 1)).run Try.prog w = .ok (.pointer (some ⟨gx, 2, none⟩)) w := fun _ => by kernel_rfl
        go_wp2_with (go_at_call 79; ((with_reducible refine HNW.out.mono ?_); rintro en w4 ⟨a4, c4, rfl, hcw4, hgr4⟩; have HC4 := Lib.hid hcw4; have HG4 := Lib.hid hgr4; have HX4 := Lib.hid (hbx.out.grew (by simp) hgr4 HN.out.1 hofa); clear hcw4 hgr4))
        exact ⟨⟨2, a4, c4, by omega, rfl, by show Cw _ _ _ _ _ _; have h1 := HC4.out; simpa using h1, hgr.out.trans HG4.out, HX4.out⟩, by simp [intOf]⟩
      · have hnw := number_w D g gx 3 c3 a3 _ lease wr hcw.out hDr (hbx.out.cell (j := 3) rfl) HN.out.1 hofa (by simp [be8_length]; omega)
        have HNW := Lib.hid hnw
        clear hnw
        have hidx : ∀ w, (Instr.index 156 (.agg #[.pointer (some ⟨gx, 1, none⟩), .pointer (some ⟨gx, 2, none⟩), .pointer (some ⟨gx, 3, none⟩), .pointer (some ⟨gx, 4, none⟩)]) (.int .i64 2)).run Try.prog w = .ok (.pointer (some ⟨gx, 3, none⟩)) w := fun _ => by kernel_rfl
        go_wp2_with (go_at_call 79; ((with_reducible refine HNW.out.mono ?_); rintro en w4 ⟨a4, c4, rfl, hcw4, hgr4⟩; have HC4 := Lib.hid hcw4; have HG4 := Lib.hid hgr4; have HX4 := Lib.hid (hbx.out.grew (by simp) hgr4 HN.out.1 hofa); clear hcw4 hgr4))
        exact ⟨⟨3, a4, c4, by omega, rfl, by show Cw _ _ _ _ _ _; have h1 := HC4.out; simpa using h1, hgr.out.trans HG4.out, HX4.out⟩, by simp [intOf]⟩
      · have hnw := number_w D g gx 4 c3 a3 _ size wr hcw.out hDr (hbx.out.cell (j := 4) rfl) HN.out.1 hofa (by simp [be8_length]; omega)
        have HNW := Lib.hid hnw
        clear hnw
        have hidx : ∀ w, (Instr.index 156 (.agg #[.pointer (some ⟨gx, 1, none⟩), .pointer (some ⟨gx, 2, none⟩), .pointer (some ⟨gx, 3, none⟩), .pointer (some ⟨gx, 4, none⟩)]) (.int .i64 3)).run Try.prog w = .ok (.pointer (some ⟨gx, 4, none⟩)) w := fun _ => by kernel_rfl
        go_wp2_with (go_at_call 79; ((with_reducible refine HNW.out.mono ?_); rintro en w4 ⟨a4, c4, rfl, hcw4, hgr4⟩; have HC4 := Lib.hid hcw4; have HG4 := Lib.hid hgr4; have HX4 := Lib.hid (hbx.out.grew (by simp) hgr4 HN.out.1 hofa); clear hcw4 hgr4))
        exact ⟨⟨4, a4, c4, by omega, rfl, by show Cw _ _ _ _ _ _; have h1 := HC4.out; simpa using h1, hgr.out.trans HG4.out, HX4.out⟩, by simp [intOf]⟩
    · obtain rfl : k = 4 := by omega
      go_wp2
      go_end0
      refine ⟨⟨a3, c3, rfl, ?_, hgr.out⟩, hbx.out⟩
      have h1 := hcw.out
      simpa [encWAns] using h1
end Go.Proofs.Ytlckgnemmffdkaa

/- An answer as bytes. -/
namespace Go.Proofs.Ytlckgnemmffdkaa
open Go.ChangeShapes Go.WideShapes Go.ChangeAt Go.RowKit
set_option maxRecDepth 100000

theorem Grew.bel {w W w' : World} {g : Nat} {a' : Option Addr} (h : Grew g none a' W w') (hb : Below w.heap.size w W) (hg : w.heap.size ≤ g) : Below w.heap.size w w' :=
  ⟨h.os.trans hb.os, h.tape.trans hb.tape, h.output.trans hb.output, Nat.le_trans hb.size h.size, fun k hk => by rw [h.keep k (Nat.lt_of_lt_of_le hk hb.size) (by omega) (fun o s e => by cases e)]; exact hb.block k hk⟩
/-- Bytes in a row, its capacity as great as it must be. -/
def RetBC (w : World) (l : List UInt8) (e : Ending) (w' : World) : Prop := ∃ a c, e = .returned (.slice a l.length c) ∧ RowB w' a l ∧ Below w.heap.size w w' ∧ l.length ≤ c
set_option maxHeartbeats 2000000 in
theorem written_answer (e rate burst lease size : Int) (w : World) :
    Calls Try.prog 64 #[.agg #[.int .i64 e, .int .i64 rate, .int .i64 burst, .int .i64 lease, .int .i64 size], .func (.func 59) #[] #[]] w (RetBC w (encWAns ⟨e, rate, burst, lease, size⟩)) := by
  obtain ⟨W, hW⟩ : ∃ W, W = (w.alloc (.cells #[.int .i64 e, .int .i64 rate, .int .i64 burst, .int .i64 lease, .int .i64 size] 42)).alloc (.cells #[.slice none 0 0, .int .i64 0, .bool false] 134) := ⟨_, rfl⟩
  have hbx : Box W w.heap.size [.int .i64 e, .int .i64 rate, .int .i64 burst, .int .i64 lease, .int .i64 size] := by rw [hW]; exact Box.of_alloc (mid_alloc' (Below.refl _ _))
  have hbc : Box W (w.heap.size + 1) [.slice none ([] : List UInt8).length 0, .int .i64 0, .bool false] := by rw [hW]; exact Box.of_alloc1 (Below.refl _ _)
  have hcw : Cw W (w.heap.size + 2) (w.heap.size + 1) none 0 [] := ⟨hbc, Can.nil _ _ _ _, (fun b o s h => by cases h), by omega, (fun b o s h => by cases h)⟩
  have hsz : w.heap.size + 2 ≤ W.heap.size := by rw [hW]; simp
  have hbW : Below w.heap.size w W := by rw [hW]; exact mid_alloc' (mid_alloc' (Below.refl _ _))
  have HA := Lib.hid (answer_w (w.heap.size + 2) (w.heap.size + 1) w.heap.size 0 none [] e rate burst lease size W hcw hsz hbx (by omega) (fun o s h => by cases h) (by simp))
  have HBW := Lib.hid hbW
  rw [hW] at HA
  go_enter Try.func64, Try.ntmps64
  go_wp2_with (go_at_call 59; ((with_reducible refine HA.out.mono ?_); rintro en w1 ⟨⟨a1, c1, rfl, hcw1, hgr1⟩, hx1⟩; have HC1 := Lib.hid hcw1; have HG1 := Lib.hid hgr1; have k0 := hcw1.box.cell (j := 0) rfl; clear hcw1 hgr1 hx1))
  go_ret
  refine ⟨a1, c1, rfl, HC1.out.can.row, ?_, HC1.out.can.le⟩
  have hg := HG1.out
  rw [← hW] at hg
  exact hg.bel HBW.out (by omega)
theorem answer_bytes (e rate burst lease size : Int) (w : World) :
    Calls Try.prog 26 #[.agg #[.int .i64 e, .int .i64 rate, .int .i64 burst, .int .i64 lease, .int .i64 size]] w (RetBC w (encWAns ⟨e, rate, burst, lease, size⟩)) := by
  have hba : Below w.heap.size w (w.alloc (.cells #[.int .i64 e, .int .i64 rate, .int .i64 burst, .int .i64 lease, .int .i64 size] 42)) := (Below.refl _ _).alloc (Nat.le_refl _) _
  have HB := Lib.hid hba
  go_enter Try.func26, Try.ntmps26
  go_wp2_with (go_at_call 64; ((with_reducible refine (written_answer e rate burst lease size _).mono ?_); rintro en w1 ⟨a1, c1, rfl, hr1, hb1, hc1⟩; have HLE := Lib.hid hc1; clear hc1; have HR1 := Lib.hid hr1; have HB1 := Lib.hid (HB.out.trans (hb1.mono HB.out.size)); clear hr1 hb1))
  go_ret
  exact ⟨a1, c1, rfl, HR1.out, HB1.out, HLE.out⟩
end Go.Proofs.Ytlckgnemmffdkaa
