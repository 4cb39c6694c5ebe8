/- The document's reader: its beginning and its end. -/
import Derived.Test.YtlckgnemmffdkaaWirRrE
namespace Go.Proofs.Ytlckgnemmffdkaa
open Go.ChangeShapes Go.WideShapes Go.ChangeAt Go.RowKit
set_option maxRecDepth 100000

def RetBegin (w : World) (a : Option Addr) (c : Nat) (bs : List UInt8) (e : Ending) (w' : World) : Prop := e = .returned (.tuple #[.pointer (some ⟨w.heap.size, 0, none⟩), .int .i64 0]) ∧ Rs w' w.heap.size a c bs (.ok 0) ∧ Below w.heap.size w w'
theorem begin_any (a : Option Addr) (c : Nat) (bs : List UInt8) (w : World) (hr : RowB w a bs) (hc : bs.length ≤ c) (hl : bs.length ≤ 1048576) :
    Calls Try.prog 46 #[.slice a bs.length c] w (RetBegin w a c bs) := by
  have hB : Below w.heap.size w (w.alloc (.cells #[.slice a bs.length c, .int .i64 0, .int .i64 (-1)] 112)) := mid_alloc' (Below.refl _ _)
  have hbx : Box (w.alloc (.cells #[.slice a bs.length c, .int .i64 0, .int .i64 (-1)] 112)) w.heap.size [.slice a bs.length c, .int .i64 (0 : Nat), .int .i64 (-1)] := Box.of_alloc (cs := [.slice a bs.length c, .int .i64 0, .int .i64 (-1)]) (Below.refl _ _)
  have hlow : ∀ b o s, rowA a bs = some ⟨b, o, s⟩ → b < w.heap.size := fun b o s h => by
    unfold rowA at h
    split at h
    · cases h
    · rename_i h0
      rcases hr with h1 | ⟨b1, o1, rfl, h1⟩
      · exact absurd (by simpa using h1) h0
      · have := Row.lt (.inr ⟨b1, o1, rfl, h1⟩) (by simpa using h0)
        simp only [Option.some.injEq, Addr.mk.injEq] at h
        omega
  have HR := Lib.hid (And.intro (⟨⟨hbx, hr.below hB, hc, hlow⟩, by omega⟩ : Rs _ w.heap.size a c bs (.ok 0)) hB)
  clear hr hlow hbx hB
  go_enter Try.func46, Try.ntmps46
  go_wp2
  go_ret2
  exact ⟨rfl, HR.out.1, HR.out.2⟩
/-- The end of a reading that stands at st. -/
def RetEnd (w : World) (g : Nat) (bs : List UInt8) (st : Except Nat Nat) (e : Ending) (w' : World) : Prop :=
  Turn g g w w' ∧ ((∃ f : Nat, e = .returned (.tuple #[.int .i64 f, .int .i64 50]) ∧ (st = .error f ∨ (st = .ok f ∧ f < bs.length))) ∨ (e = .returned (.tuple #[.int .i64 0, .int .i64 0]) ∧ ∃ p, st = .ok p ∧ ¬ p < bs.length))
set_option maxHeartbeats 1000000 in
theorem end_any (g c : Nat) (a : Option Addr) (bs : List UInt8) (st : Except Nat Nat) (w : World) (hl : bs.length ≤ 2000000) (h : Rs w g a c bs st) :
    Calls Try.prog 48 #[.pointer (some ⟨g, 0, none⟩)] w (RetEnd w g bs st) := by
  cases st with
  | error f =>
    have k0 := h.box.cell (j := 0) rfl
    have k1 := h.box.cell (j := 1) rfl
    have k2 := h.box.cell (j := 2) rfl
    have d1 : decide ((f : Int) < 0) = false := decide_eq_false (by omega)
    have HQ := Lib.hid (fun n => (below_drewN (Below.refl w.heap.size w) n))
    clear h
    go_enter Try.func48, Try.ntmps48
    go_upto_region 1 with (fail)
    go_quiet (fail)
    go_wp2
    go_ret2
    exact ⟨Turn.below (HQ.out _), .inl ⟨f, rfl, .inl rfl⟩⟩
  | ok p =>
    obtain ⟨hb, hp⟩ := h
    have k0 := hb.box.cell (j := 0) rfl
    have k1 := hb.box.cell (j := 1) rfl
    have k2 := hb.box.cell (j := 2) rfl
    have z2 := hb.box.froz (j := 2) (by simp)
    have HQ := Lib.hid (fun n => (below_drewN (Below.refl w.heap.size w) n))
    have d1 : decide ((-1 : Int) < 0) = true := rfl
    by_cases hlt : p < bs.length
    · have d2 : decide (p < bs.length) = true := decide_eq_true hlt
      clear hb
      go_enter Try.func48, Try.ntmps48
      go_upto_region 1 with (fail)
      go_quiet (fail)
      go_wp2
      go_ret2
      exact ⟨(Turn.below (HQ.out _)).set _ _ (.inl rfl), .inl ⟨p, rfl, .inr ⟨rfl, hlt⟩⟩⟩
    · have d2 : decide (p < bs.length) = false := decide_eq_false hlt
      clear hb
      go_enter Try.func48, Try.ntmps48
      go_upto_region 1 with (fail)
      go_quiet (fail)
      go_wp2
      go_ret2
      exact ⟨Turn.below (HQ.out _), .inr ⟨rfl, p, rfl, hlt⟩⟩
theorem read_bad {α : Type} {z x : α} {P : List UInt8 → Nat → Got α} {bs : List UInt8} {st : Except Nat Nat} {f : Nat} (h : Link P bs (.ok 0) x st) (hl : bs.length ≤ 1048576) (he : st = .error f ∨ (st = .ok f ∧ f < bs.length)) : readP z P bs = (z, f, 50) := by
  unfold Link at h
  unfold readP
  rw [if_neg (by omega)]
  rcases he with rfl | ⟨rfl, hf⟩
  · cases hp : P bs 0 with
    | ok y => obtain ⟨v, q⟩ := y; simp [hp] at h
    | error e => simp only [hp] at h; cases h; rfl
  · cases hp : P bs 0 with
    | ok y =>
      obtain ⟨v, q⟩ := y
      simp only [hp] at h
      obtain ⟨rfl, hq⟩ := h
      cases hq
      show (if _ then _ else _) = _
      rw [if_pos hf]
    | error e => simp [hp] at h
theorem read_ok {α : Type} {z x : α} {P : List UInt8 → Nat → Got α} {bs : List UInt8} {p : Nat} (h : Link P bs (.ok 0) x (.ok p)) (hl : bs.length ≤ 1048576) (he : ¬ p < bs.length) : readP z P bs = (x, 0, 0) := by
  unfold Link at h
  unfold readP
  rw [if_neg (by omega)]
  cases hp : P bs 0 with
  | ok y =>
    obtain ⟨v, q⟩ := y
    simp only [hp] at h
    obtain ⟨rfl, hq⟩ := h
    cases hq
    show (if _ then _ else _) = _
    rw [if_neg he]
  | error e => simp [hp] at h
end Go.Proofs.Ytlckgnemmffdkaa
