/- A reader of bytes: what it holds, what becomes of the world; so many bytes taken. -/
import Derived.Test.YtlckgnemmffdkaaWirCw
import Derived.Test.YtlckgnemmffdkaaWirThings
import Derived.Deep.Cut
import Derived.Recover
import Derived.WalkSmall
namespace Go.Proofs.Ytlckgnemmffdkaa
open Go.ChangeShapes Go.WideShapes Go.ChangeAt Go.RowKit
set_option maxRecDepth 100000

/-- Of the blocks that stood, those in S alone may have turned. -/
structure Keep (S : Nat → Prop) (w w' : World) : Prop where
  os : w'.os = w.os
  tape : w'.tape = w.tape
  output : w'.output = w.output
  size : w.heap.size ≤ w'.heap.size
  block : ∀ k, k < w.heap.size → ¬ S k → w'.heap[k]? = w.heap[k]?
theorem Keep.refl (S : Nat → Prop) (w : World) : Keep S w w := ⟨rfl, rfl, rfl, Nat.le_refl _, fun _ _ _ => rfl⟩
theorem Keep.trans {S : Nat → Prop} {w w' w'' : World} (h : Keep S w w') (h2 : Keep S w' w'') : Keep S w w'' :=
  ⟨h2.os.trans h.os, h2.tape.trans h.tape, h2.output.trans h.output, Nat.le_trans h.size h2.size, fun k hk hn => (h2.block k (Nat.lt_of_lt_of_le hk h.size) hn).trans (h.block k hk hn)⟩
theorem Keep.mono {S S' : Nat → Prop} {w w' : World} (h : Keep S w w') (hs : ∀ k, k < w.heap.size → S k → S' k) : Keep S' w w' := ⟨h.os, h.tape, h.output, h.size, fun k hk hn => h.block k hk (fun e => hn (hs k hk e))⟩
theorem Keep.of {S : Nat → Prop} {w w' : World} (h : Below w.heap.size w w') : Keep S w w' := ⟨h.os, h.tape, h.output, h.size, fun k hk _ => h.block k hk⟩
theorem Keep.bel {S : Nat → Prop} {w w' : World} {b : Nat} (h : Keep S w w') (hb : b ≤ w.heap.size) (hs : ∀ k, S k → b ≤ k) : Below b w w' := ⟨h.os, h.tape, h.output, h.size, fun k hk => h.block k (by omega) (fun e => by have := hs k e; omega)⟩
theorem Keep.set {S : Nat → Prop} {w w' : World} (h : Keep S w w') (p : Addr) (v : Value) (hp : S p.block) : Keep S w (w'.setCell p v) :=
  h.trans ⟨rfl, rfl, rfl, by simp, fun k _ hn => Below.heap_setCell _ _ _ _ (fun e => hn (e ▸ hp))⟩
theorem Box.keep {S : Nat → Prop} {w w' : World} {g : Nat} {cs : List Value} (h : Box w g cs) (h0 : 0 < cs.length) (hk : Keep S w w') (hn : ¬ S g) : Box w' g cs := h.block (hk.block g (h.lt h0) hn)
theorem Row.keep {S : Nat → Prop} {w w' : World} {a : Option Addr} {xs : List Value} (h : Row w a xs) (hk : Keep S w w') (hn : ∀ b o s, a = some ⟨b, o, s⟩ → ¬ S b) : Row w' a xs := by
  by_cases h0 : xs = []
  · exact .inl h0
  · rcases h with h | ⟨b, o, rfl, hc⟩
    · exact absurd h h0
    · have hlt := Row.lt (.inr ⟨b, o, rfl, hc⟩) h0
      exact .inr ⟨b, o, rfl, fun i hi => by rw [World.cell?_of_block (w := w) (hk.block b hlt (hn b o none rfl))]; exact hc i hi⟩
/-- The row that the bytes lie in: none where there are none. -/
def rowA (a : Option Addr) (bs : List UInt8) : Option Addr := if bs = [] then none else a
theorem rowA_some {a : Option Addr} {bs : List UInt8} {p : Addr} (h : a = some p) (h0 : bs ≠ []) : rowA a bs = some p := by unfold rowA; rw [if_neg h0]; exact h
theorem RowB.keepA {S : Nat → Prop} {w w' : World} {a : Option Addr} {bs : List UInt8} (h : RowB w a bs) (hk : Keep S w w') (hn : ∀ b o s, rowA a bs = some ⟨b, o, s⟩ → ¬ S b) : RowB w' a bs := by
  by_cases h0 : bs = []
  · exact .inl (by rw [h0]; rfl)
  · exact Row.keep h hk (fun b o s e => hn b o s (rowA_some e h0))
/-- The reader at g goes over the bytes and stands at p; their row lies ahead of it. -/
structure Cr (w : World) (g : Nat) (a : Option Addr) (c : Nat) (bs : List UInt8) (p : Nat) : Prop where
  box : Box w g [.slice a bs.length c, .int .i64 p, .bool true]
  row : RowB w a bs
  le : p ≤ bs.length
  cap : bs.length ≤ c
  low : ∀ b o s, rowA a bs = some ⟨b, o, s⟩ → b < g
/-- A block that is neither the reader's nor its row's. -/
structure Off (g : Nat) (a : Option Addr) (k : Nat) : Prop where
  ne : k ≠ g
  far : ∀ o s, a ≠ some ⟨k, o, s⟩
theorem Cr.keep {S : Nat → Prop} {w w' : World} {g : Nat} {a : Option Addr} {c : Nat} {bs : List UInt8} {p : Nat} (h : Cr w g a c bs p) (hk : Keep S w w') (hs : ∀ k, S k → Off g (rowA a bs) k) : Cr w' g a c bs p :=
  ⟨h.box.keep (by simp) hk (fun e => (hs g e).ne rfl), RowB.keepA h.row hk (fun b o s e e2 => (hs b e2).far o s e), h.le, h.cap, h.low⟩
theorem Cr.new {w : World} {g : Nat} {a : Option Addr} {c : Nat} {bs : List UInt8} {p : Nat} (h : Cr w g a c bs p) {k : Nat} (hk : w.heap.size ≤ k) : Off g (rowA a bs) k := by
  have h1 := h.box.lt (by simp)
  exact ⟨by omega, fun o s e => by have := h.low k o s e; omega⟩
theorem Cr.below {w w' : World} {g : Nat} {a : Option Addr} {c : Nat} {bs : List UInt8} {p : Nat} (h : Cr w g a c bs p) (hb : Below w.heap.size w w') : Cr w' g a c bs p := h.keep (S := fun k => w.heap.size ≤ k) (.of hb) (fun k hk => h.new hk)
/-- The reader's place is stored anew. -/
theorem Cr.move {w : World} {g : Nat} {a : Option Addr} {c : Nat} {bs : List UInt8} {p : Nat} (h : Cr w g a c bs p) {q : Nat} (hq : q ≤ bs.length) : Cr (w.setCell ⟨g, 1, none⟩ (.int .i64 q)) g a c bs q :=
  ⟨h.box.set (i := 1) (by simp) _, RowB.keepA h.row ((Keep.refl (fun k => k = g) w).set _ _ rfl) (fun b o s e e2 => by have := h.low b o s e; omega), hq, h.cap, h.low⟩
/-- What tells the first byte that cannot stand there. -/
abbrev badV (f : Nat) : Ending := .panicked [{ v := .iface 136 (.agg #[.int .i64 f]), recovered := false }]
/-- A reading's end: the thing is there, or the first byte that cannot stand there is told. -/
def RetRd {α : Type} (w : World) (g : Nat) (a : Option Addr) (c : Nat) (bs : List UInt8) (S : Nat → Prop) (r : Got α) (OK : α → World → Prop) (BAD : World → Prop) (e : Ending) (w' : World) : Prop :=
  Keep S w w' ∧ ((∃ x q, r = .ok (x, q) ∧ e = .returned (.tuple #[]) ∧ Cr w' g a c bs q ∧ OK x w') ∨ (∃ f, r = .error f ∧ e = badV f ∧ BAD w'))
def RetNeed (w : World) (g : Nat) (a : Option Addr) (c : Nat) (bs : List UInt8) (k q : Nat) (l : List UInt8) (e : Ending) (w' : World) : Prop := ∃ a', e = .returned (.slice a' k k) ∧ RowB w' a' l ∧ Cr w' g a c bs q ∧ Keep (fun b => b = g) w w'
set_option maxHeartbeats 1000000 in
theorem need_bad (g c p k : Nat) (a : Option Addr) (bs : List UInt8) (w : World) (h : Cr w g a c bs p) (hl : bs.length ≤ 2000000) (hs : bs.length - p < k) :
    Calls Try.prog 99 #[.pointer (some ⟨g, 0, none⟩), .int .i64 k] w (fun e w' => e = badV bs.length ∧ Below w.heap.size w w') := by
  have k0 := h.box.cell (j := 0) rfl
  have k1 := h.box.cell (j := 1) rfl
  have hle := h.le
  have d1 : decide ((bs.length : Int) - p < k) = true := decide_eq_true (by omega)
  clear h
  go_enter Try.func99, Try.ntmps99
  go_upto_region 1 with (fail)
  go_quiet (fail)
  go_wp2_with fail
  exact ⟨rfl, rfl, below_drewN (Below.refl w.heap.size w) nq⟩
set_option maxHeartbeats 1000000 in
theorem need_some (g c p k b o : Nat) (bs : List UInt8) (w : World) (h : Cr w g (some ⟨b, o, none⟩) c bs p) (hl : bs.length ≤ 2000000) (hs : ¬ bs.length - p < k) (hk : 0 < k) :
    Calls Try.prog 99 #[.pointer (some ⟨g, 0, none⟩), .int .i64 k] w (RetNeed w g (some ⟨b, o, none⟩) c bs k (p + k) ((bs.drop p).take k)) := by
  have k0 := h.box.cell (j := 0) rfl
  have k1 := h.box.cell (j := 1) rfl
  have z1 := h.box.froz (j := 1) (by simp)
  have hle := h.le
  have hcap := h.cap
  have d1 : decide ((bs.length : Int) - p < k) = false := decide_eq_false (by omega)
  have HC := Lib.hid h
  clear h
  go_enter Try.func99, Try.ntmps99
  go_upto_region 1 with (fail)
  go_quiet (fail)
  go_upto_region 3 with (fail)
  go_quiet (fail)
  go_wp2_with fail
  rename_i nq0
  have hb2 : Below w.heap.size w (w.drewN (nq0 + nq)) := below_drewN (Below.refl w.heap.size w) _
  have hgl : g < w.heap.size := World.block_lt_of_cell? w _ k0
  rw [show p + k - p = k by omega]
  go_ret
  refine ⟨some ⟨b, o + p, none⟩, rfl, ?_, (HC.out.below hb2).move (by omega), (Keep.of hb2).set _ _ rfl⟩
  have h1 := (Row.drop HC.out.row p).take k
  rw [← List.map_drop, ← List.map_take] at h1
  exact (h1.below hb2).keep ((Keep.refl (fun k => k = g) _).set _ _ rfl) (fun x y s e e2 => by simp only [Option.some.injEq, Addr.mk.injEq] at e; have := HC.out.low b o none (rowA_some rfl (by intro h0; rw [h0] at hs; simp at hs; omega)); omega)
set_option maxHeartbeats 1000000 in
theorem need_none (g c p : Nat) (ad : Addr) (bs : List UInt8) (w : World) (h : Cr w g (some ad) c bs p) (hl : bs.length ≤ 2000000) :
    Calls Try.prog 99 #[.pointer (some ⟨g, 0, none⟩), .int .i64 (0 : Nat)] w (RetNeed w g (some ad) c bs 0 p []) := by
  have k0 := h.box.cell (j := 0) rfl
  have k1 := h.box.cell (j := 1) rfl
  have z1 := h.box.froz (j := 1) (by simp)
  have hle := h.le
  have hcap := h.cap
  have d1 : decide ((bs.length : Int) - p < 0) = false := decide_eq_false (by omega)
  have HC := Lib.hid h
  clear h
  go_enter Try.func99, Try.ntmps99
  go_upto_region 1 with (fail)
  go_quiet (fail)
  go_upto_region 3 with (fail)
  go_quiet (fail)
  go_wp2_with fail
  rename_i nq0
  have hb2 : Below w.heap.size w (w.drewN (nq0 + nq)) := below_drewN (Below.refl w.heap.size w) _
  have hgl : g < w.heap.size := World.block_lt_of_cell? w _ k0
  go_ret
  exact ⟨_, rfl, .inl rfl, (HC.out.below hb2).move (by omega), (Keep.of hb2).set _ _ rfl⟩
set_option maxHeartbeats 1000000 in
theorem need_nil (g c : Nat) (w : World) (h : Cr w g none c [] 0) :
    Calls Try.prog 99 #[.pointer (some ⟨g, 0, none⟩), .int .i64 (0 : Nat)] w (RetNeed w g none c [] 0 0 []) := by
  have k0 := h.box.cell (j := 0) rfl
  have k1 := h.box.cell (j := 1) rfl
  have z1 := h.box.froz (j := 1) (by simp)
  have HC := Lib.hid h
  clear h
  go_enter Try.func99, Try.ntmps99
  go_upto_region 1 with (fail)
  go_quiet (fail)
  go_upto_region 3 with (fail)
  go_quiet (fail)
  go_wp2_with fail
  rename_i nq0
  have hb2 : Below w.heap.size w (w.drewN (nq0 + nq)) := below_drewN (Below.refl w.heap.size w) _
  have hgl : g < w.heap.size := World.block_lt_of_cell? w _ k0
  go_ret
  exact ⟨_, rfl, .inl rfl, (HC.out.below hb2).move (by simp), (Keep.of hb2).set _ _ rfl⟩
theorem need_ok (g c p k : Nat) (a : Option Addr) (bs : List UInt8) (w : World) (h : Cr w g a c bs p) (hl : bs.length ≤ 2000000) (hs : ¬ bs.length - p < k) :
    Calls Try.prog 99 #[.pointer (some ⟨g, 0, none⟩), .int .i64 k] w (RetNeed w g a c bs k (p + k) ((bs.drop p).take k)) := by
  rcases h.row with h0 | ⟨b, o, rfl, _⟩
  · have h1 : bs = [] := by simpa using h0
    subst h1
    have h2 := h.le
    obtain rfl : p = 0 := by simpa using h2
    obtain rfl : k = 0 := by simpa using hs
    cases a with
    | none => exact need_nil g c w h
    | some ad =>
      have h3 := need_none g c 0 ad [] w h (by simp)
      simpa using h3
  · by_cases hk : k = 0
    · subst hk
      rw [List.take_zero]
      exact need_none g c p _ bs w h hl
    · exact need_some g c p k b o bs w h hl hs (by omega)
theorem beVal_take1 {l : List UInt8} {k : Nat} (h : k < l.length) : beVal (l.take (k + 1)) = beVal (l.take k) * 256 + l[k].toNat := by
  rw [List.take_succ_eq_append_getElem h, beVal_snoc]
theorem or_step64 {v : Nat} (x : UInt8) (h : v < 72057594037927936) : bits .or .u64 ((v : Int) * 256) (IntKind.u64.wrap (x.toNat : Int)) = ((v * 256 + x.toNat : Nat) : Int) := by
  have hx := x.toNat_lt
  have e3 : IntKind.u64.wrap (x.toNat : Int) = x.toNat := by rw [IntKind.wrap_u64]; omega
  rw [e3]
  have e := u64_or_nat (v * 256) x.toNat (by omega) (by omega)
  have e2 : v * 256 ||| x.toNat = v * 256 + x.toNat := by
    have := Nat.shiftLeft_add_eq_or_of_lt (i := 8) (b := x.toNat) (by omega) v
    rw [Nat.shiftLeft_eq] at this
    simpa using this.symm
  rw [e2] at e
  rw [← e]; norm_cast
def RetNum (w : World) (g gx ox : Nat) (a : Option Addr) (c : Nat) (bs : List UInt8) (p : Nat) (cs : List Value) : Ending → World → Prop := RetRd w g a c bs (fun k => k = g ∨ k = gx) (numP bs p) (fun v w' => Box w' gx (cs.set ox (.int .i64 v))) (fun w' => Box w' gx cs)
set_option maxHeartbeats 1000000 in
theorem number_bad (g c p gx ox : Nat) (a : Option Addr) (bs : List UInt8) (cs : List Value) (w : World) (h : Cr w g a c bs p) (hl : bs.length ≤ 2000000) (hx : Box w gx cs) (hgx : Off g (rowA a bs) gx) (hox : ox < cs.length) (hs : bs.length - p < 8) :
    Calls Try.prog 79 #[.pointer (some ⟨g, 0, none⟩), .pointer (some ⟨gx, ox, none⟩)] w (RetNum w g gx ox a c bs p cs) := by
  have k2 := h.box.cell (j := 2) rfl
  have HC := Lib.hid h
  have HX := Lib.hid hx
  have HNB : Hid (Calls Try.prog 99 #[.pointer (some ⟨g, 0, none⟩), .int .i64 8] w (fun e w' => e = badV bs.length ∧ Below w.heap.size w w')) := need_bad g c p 8 a bs w h hl hs
  clear h hx
  go_enter Try.func79, Try.ntmps79
  go_wp2_with (go_at_call 99; ((with_reducible refine HNB.out.mono ?_); rintro e w1 ⟨rfl, hb⟩; have HB := Lib.hid hb; clear hb))
  have hn : numP bs p = .error bs.length := by unfold numP needP; rw [if_pos hs]; rfl
  exact ⟨rfl, .of HB.out, .inr ⟨_, hn, rfl, HX.out.next (by omega) HB.out⟩⟩
set_option maxHeartbeats 1000000 in
theorem number_ok (g c p gx ox : Nat) (a : Option Addr) (bs : List UInt8) (cs : List Value) (w : World) (h : Cr w g a c bs p) (hl : bs.length ≤ 2000000) (hx : Box w gx cs) (hgx : Off g (rowA a bs) gx) (hox : ox < cs.length) (hs : ¬ bs.length - p < 8) :
    Calls Try.prog 79 #[.pointer (some ⟨g, 0, none⟩), .pointer (some ⟨gx, ox, none⟩)] w (RetNum w g gx ox a c bs p cs) := by
  have k2 := h.box.cell (j := 2) rfl
  have HC := Lib.hid h
  have HX := Lib.hid hx
  have HNEED : Hid (Calls Try.prog 99 #[.pointer (some ⟨g, 0, none⟩), .int .i64 8] w (RetNeed w g a c bs 8 (p + 8) ((bs.drop p).take 8))) := need_ok g c p 8 a bs w h hl hs
  clear h hx
  generalize hL : (bs.drop p).take 8 = l at HNEED
  have hl8 : l.length = 8 := by rw [← hL, List.length_take, List.length_drop]; omega
  have HL := Lib.hid hL
  clear hL
  go_enter Try.func79, Try.ntmps79
  go_wp2_with (go_at_call 99; ((with_reducible refine HNEED.out.mono ?_); rintro e w1 ⟨a1, rfl, hr1, hc1, hk1⟩; have HR1 := Lib.hid hr1; have HC1 := Lib.hid hc1; have HK1 := Lib.hid hk1; clear hr1 hc1 hk1))
  have hgl := HC.out.box.lt (by simp)
  have HX1 := Lib.hid (HX.out.keep (by omega) HK1.out hgx.ne)
  have x1 := HX1.out.cell (List.getElem?_eq_getElem hox)
  have y1 := HX1.out.froz hox
  obtain ⟨b, o, rfl, hcell⟩ := RowB.at HR1.out (k := 0) (by omega)
  have HCELL := Lib.hid hcell
  have hbs := beVal_lt l
  rw [hl8] at hbs
  clear hcell
  go_loop [4, 6, 15] (fun v _ i => ∃ k : Nat, k ≤ 8 ∧ i = .int .i64 k ∧ v = .int .u64 (beVal (l.take k) : Nat)) (fun _ _ i => 8 - (intOf i).toNat)
  case atStart => exact ⟨0, by omega, rfl, rfl⟩
  case round =>
    obtain ⟨k, hk, rfl, rfl⟩ := hrel
    by_cases hlt : k < 8
    · have hcell := HCELL.out k (by omega)
      have hlt2 : beVal (l.take k) < 72057594037927936 := by
        refine Nat.lt_of_lt_of_le (beVal_lt (l.take k)) ?_
        rw [List.length_take, Nat.min_eq_left (by omega)]
        have : 256 ^ k ≤ 256 ^ 7 := Nat.pow_le_pow_right (by decide) (by omega)
        omega
      have HS := Lib.hid (beVal_take1 (l := l) (k := k) (by omega))
      have HO := Lib.hid (or_step64 (l[k]'(by omega)) hlt2)
      generalize l[k]'(by omega) = x at hcell HS HO
      generalize beVal (l.take k) = v at hlt2 HS HO ⊢
      go_wp2
      exact ⟨⟨k + 1, by omega, by go_num, by rw [HO.out, HS.out]⟩, by simp [intOf]; omega⟩
    · obtain rfl : k = 8 := by omega
      rw [List.take_of_length_le (by omega)]
      have HV : Hid (wrap64 (beVal l : Int) = num8 l) := by
        show _ = _
        unfold num8 i64 wrap64
        split <;> omega
      generalize beVal l = v at HV hbs ⊢
      go_wp2
      rw [HV.out]
      go_end0
      have hn : numP bs p = .ok (num8 l, p + 8) := by unfold numP needP; rw [if_neg hs, HL.out]; rfl
      exact ⟨(HK1.out.mono (fun k _ e => .inl e)).set _ _ (.inr rfl), .inl ⟨_, _, hn, rfl, HC1.out.keep ((Keep.refl (fun k => k = gx) _).set _ _ rfl) (fun k e => by subst e; exact hgx), HX1.out.set hox _⟩⟩
theorem number_r (g c p gx ox : Nat) (a : Option Addr) (bs : List UInt8) (cs : List Value) (w : World) (h : Cr w g a c bs p) (hl : bs.length ≤ 2000000) (hx : Box w gx cs) (hgx : Off g (rowA a bs) gx) (hox : ox < cs.length) :
    Calls Try.prog 79 #[.pointer (some ⟨g, 0, none⟩), .pointer (some ⟨gx, ox, none⟩)] w (RetNum w g gx ox a c bs p cs) := by
  by_cases hs : bs.length - p < 8
  · exact number_bad g c p gx ox a bs cs w h hl hx hgx hox hs
  · exact number_ok g c p gx ox a bs cs w h hl hx hgx hox hs
end Go.Proofs.Ytlckgnemmffdkaa
