/- A reader of bytes: a byte, a kind, a truth, a count, bytes taken. -/
import Derived.Test.YtlckgnemmffdkaaWirCr
namespace Go.Proofs.Ytlckgnemmffdkaa
open Go.ChangeShapes Go.WideShapes Go.ChangeAt Go.RowKit
set_option maxRecDepth 100000

/-- Of the blocks that stood, the reader's and the thing's alone may have turned. -/
abbrev Turn (g gx : Nat) (w w' : World) : Prop := Keep (fun k => k = g ∨ k = gx ∨ w.heap.size ≤ k) w w'
theorem Keep.turn {S : Nat → Prop} {g gx : Nat} {w w' : World} (h : Keep S w w') (hs : ∀ k, S k → k = g ∨ k = gx) : Turn g gx w w' := h.mono fun k _ e => by rcases hs k e with e | e; exact .inl e; exact .inr (.inl e)
theorem Turn.refl (g gx : Nat) (w : World) : Turn g gx w w := Keep.refl _ w
theorem Turn.next {g gx : Nat} {w w' w'' : World} (h : Turn g gx w w') (h2 : Turn g gx w' w'') : Turn g gx w w'' := Keep.trans h (h2.mono fun k _ e => by rcases e with e | e | e; exact .inl e; exact .inr (.inl e); exact .inr (.inr (Nat.le_trans h.size e)))
theorem Turn.below {g gx : Nat} {w w' : World} (h : Below w.heap.size w w') : Turn g gx w w' := (Keep.of (S := fun k => w.heap.size ≤ k) h).mono fun k hk e => absurd e (by omega)
/-- A variable that is there, whatever it holds. -/
def Any (w : World) (g n : Nat) : Prop := ∃ cs : List Value, cs.length = n ∧ Box w g cs
theorem Any.of {w : World} {g n : Nat} {cs : List Value} (h : Box w g cs) (hn : cs.length = n) : Any w g n := ⟨cs, hn, h⟩
theorem Any.keep {S : Nat → Prop} {w w' : World} {g n : Nat} (h : Any w g n) (h0 : 0 < n) (hk : Keep S w w') (hn : ¬ S g) : Any w' g n := by
  obtain ⟨cs, hl, hb⟩ := h
  exact ⟨cs, hl, hb.keep (by omega) hk hn⟩
/-- A reading's end, at a variable of n cells. -/
def RetT {α : Type} (w : World) (g gx n : Nat) (a : Option Addr) (c : Nat) (bs : List UInt8) (r : Got α) (OK : α → World → Prop) (e : Ending) (w' : World) : Prop :=
  Turn g gx w w' ∧ ((∃ x q, r = .ok (x, q) ∧ e = .returned (.tuple #[]) ∧ Cr w' g a c bs q ∧ OK x w') ∨ (∃ f, r = .error f ∧ e = badV f ∧ Any w' gx n))
/-- What is read is put into a cell of the variable. -/
abbrev RetPut {α : Type} (val : α → Value) (w : World) (g gx ox : Nat) (a : Option Addr) (c : Nat) (bs : List UInt8) (cs : List Value) (r : Got α) : Ending → World → Prop := RetT w g gx cs.length a c bs r (fun v w' => Box w' gx (cs.set ox (val v)))
theorem number_t (g c p gx ox : Nat) (a : Option Addr) (bs : List UInt8) (cs : List Value) (w : World) (h : Cr w g a c bs p) (hl : bs.length ≤ 2000000) (hx : Box w gx cs) (hgx : Off g (rowA a bs) gx) (hox : ox < cs.length) :
    Calls Try.prog 79 #[.pointer (some ⟨g, 0, none⟩), .pointer (some ⟨gx, ox, none⟩)] w (RetPut (.int .i64) w g gx ox a c bs cs (numP bs p)) :=
  (number_r g c p gx ox a bs cs w h hl hx hgx hox).mono fun e w' h => by
    obtain ⟨hk, h⟩ := h
    refine ⟨hk.turn fun k e => e, ?_⟩
    rcases h with h | ⟨f, h1, h2, h3⟩
    · exact .inl h
    · exact .inr ⟨f, h1, h2, .of h3 rfl⟩
theorem small_no {bs : List UInt8} {p : Nat} (hs : bs.length - p < 1) : smallP bs p = .error bs.length := by unfold smallP needP; rw [if_pos hs]; rfl
theorem small_yes {bs : List UInt8} {p : Nat} (hs : ¬ bs.length - p < 1) : smallP bs p = .ok (((bs.drop p).take 1).headD 0, p + 1) := by unfold smallP needP; rw [if_neg hs]; rfl
set_option maxHeartbeats 1000000 in
theorem small_t (g c p gx ox : Nat) (a : Option Addr) (bs : List UInt8) (cs : List Value) (w : World) (h : Cr w g a c bs p) (hl : bs.length ≤ 2000000) (hx : Box w gx cs) (hgx : Off g (rowA a bs) gx) (hox : ox < cs.length) :
    Calls Try.prog 81 #[.pointer (some ⟨g, 0, none⟩), .pointer (some ⟨gx, ox, none⟩)] w (RetPut B w g gx ox a c bs cs (smallP bs p)) := by
  have k2 := h.box.cell (j := 2) rfl
  have HC := Lib.hid h
  have HX := Lib.hid hx
  by_cases hs : bs.length - p < 1
  · have HNB : Hid (Calls Try.prog 99 #[.pointer (some ⟨g, 0, none⟩), .int .i64 1] w (fun e w' => e = badV bs.length ∧ Below w.heap.size w w')) := need_bad g c p 1 a bs w h hl hs
    clear h hx
    go_enter Try.func81, Try.ntmps81
    go_wp2_with (go_at_call 99; ((with_reducible refine HNB.out.mono ?_); rintro e w1 ⟨rfl, hb⟩; have HB := Lib.hid hb; clear hb))
    exact ⟨rfl, Turn.below HB.out, .inr ⟨_, small_no hs, rfl, .of (HX.out.next (by omega) HB.out) rfl⟩⟩
  · have HNEED : Hid (Calls Try.prog 99 #[.pointer (some ⟨g, 0, none⟩), .int .i64 1] w (RetNeed w g a c bs 1 (p + 1) ((bs.drop p).take 1))) := need_ok g c p 1 a bs w h hl hs
    have HS := Lib.hid (small_yes hs)
    clear h hx
    have hl1 : ((bs.drop p).take 1).length = 1 := by rw [List.length_take, List.length_drop]; omega
    generalize (bs.drop p).take 1 = l at HNEED HS hl1
    obtain ⟨y, rfl⟩ : ∃ y, l = [y] := by
      match l, hl1 with
      | [y], _ => exact ⟨y, rfl⟩
    clear hl1
    go_enter Try.func81, Try.ntmps81
    go_wp2_with (go_at_call 99; ((with_reducible refine HNEED.out.mono ?_); rintro e w1 ⟨a1, rfl, hr1, hc1, hk1⟩; have HX1 := Lib.hid (HX.out.keep (by omega) hk1 hgx.ne); have HC1 := Lib.hid hc1; have HK1 := Lib.hid hk1; obtain ⟨b, o, rfl, hcell⟩ := RowB.at hr1 (k := 0) (by simp); have y0 := hcell 0 (by simp); simp only [Nat.add_zero, List.getElem_cons_zero] at y0; have x1 := HX1.out.cell (List.getElem?_eq_getElem hox); have z1 := HX1.out.froz hox; clear hr1 hc1 hk1 hcell))
    go_end0
    exact ⟨(HK1.out.turn (gx := gx) (fun k e => .inl e)).set _ _ (.inr (.inl rfl)), .inl ⟨_, _, HS.out, rfl, HC1.out.keep ((Keep.refl (fun k => k = gx) _).set _ _ rfl) (fun k e => by subst e; exact hgx), HX1.out.set hox _⟩⟩
end Go.Proofs.Ytlckgnemmffdkaa
