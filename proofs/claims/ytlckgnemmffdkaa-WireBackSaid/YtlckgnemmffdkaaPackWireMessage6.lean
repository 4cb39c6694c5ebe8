import Derived.Test.YtlckgnemmffdkaaWirRrE
import Derived.Test.YtlckgnemmffdkaaPackWireMessage3
import Derived.Test.YtlckgnemmffdkaaWirSameM
set_option linter.unusedVariables false
set_option linter.unusedSimpArgs false
/- The document's reader: its beginning and its end. -/
namespace Go.Proofs.Ytlckgnemmffdkaa
open Go.ChangeShapes Go.WideShapes Go.ChangeAt Go.RowKit
set_option maxRecDepth 100000

def RetBegin (w : World) (a : Option Addr) (c : Nat) (bs : List UInt8) (e : Ending) (w' : World) : Prop := e = .returned (.tuple #[.pointer (some ⟨w.heap.size, 0, none⟩), .int .i64 0]) ∧ Rs w' w.heap.size a c bs (.ok 0) ∧ Below w.heap.size w w'
theorem begin_any (a : Option Addr) (c : Nat) (bs : List UInt8) (w : World) (hr : RowB w a bs) (hc : bs.length ≤ c) (hl : bs.length ≤ 1048576) :
    Calls Try.prog 46 #[.slice a bs.length c] w (RetBegin w a c bs) := by
  have hB : Below w.heap.size w (w.alloc (.cells #[.slice a bs.length c, .int .i64 0, .int .i64 (-1)] 112)) := mid_alloc' (Below.refl _ _)
  have hbx : Box (w.alloc (.cells #[.slice a bs.length c, .int .i64 0, .int .i64 (-1)] 112)) w.heap.size [.slice a bs.length c, .int .i64 (0 : Nat), .int .i64 (-1)] := Box.of_alloc (cs := [.slice a bs.length c, .int .i64 0, .int .i64 (-1)]) (Below.refl _ _)
  have hlow : ∀ b o s, rowA a bs = some ⟨b, o, s⟩ → b < w.heap.size := fun b o s h => by
    unfold rowA at h
    split at h
    · cases h
    · rename_i h0
      rcases hr with h1 | ⟨b1, o1, rfl, h1⟩
      · exact absurd (by simpa using h1) h0
      · have := Row.lt (.inr ⟨b1, o1, rfl, h1⟩) (by simpa using h0)
        simp only [Option.some.injEq, Addr.mk.injEq] at h
        omega
  have HR := Lib.hid (And.intro (⟨⟨hbx, hr.below hB, hc, hlow⟩, by omega⟩ : Rs _ w.heap.size a c bs (.ok 0)) hB)
  clear hr hlow hbx hB
  go_enter Try.func46, Try.ntmps46
  go_wp2
  go_ret2
  exact ⟨rfl, HR.out.1, HR.out.2⟩
/-- The end of a reading that stands at st. -/
def RetEnd (w : World) (g : Nat) (bs : List UInt8) (st : Except Nat Nat) (e : Ending) (w' : World) : Prop :=
  Turn g g w w' ∧ ((∃ f : Nat, e = .returned (.tuple #[.int .i64 f, .int .i64 50]) ∧ (st = .error f ∨ (st = .ok f ∧ f < bs.length))) ∨ (e = .returned (.tuple #[.int .i64 0, .int .i64 0]) ∧ ∃ p, st = .ok p ∧ ¬ p < bs.length))
set_option maxHeartbeats 1000000 in
theorem end_any (g c : Nat) (a : Option Addr) (bs : List UInt8) (st : Except Nat Nat) (w : World) (hl : bs.length ≤ 2000000) (h : Rs w g a c bs st) :
    Calls Try.prog 48 #[.pointer (some ⟨g, 0, none⟩)] w (RetEnd w g bs st) := by
  cases st with
  | error f =>
    have k0 := h.box.cell (j := 0) rfl
    have k1 := h.box.cell (j := 1) rfl
    have k2 := h.box.cell (j := 2) rfl
    have d1 : decide ((f : Int) < 0) = false := decide_eq_false (by omega)
    have HQ := Lib.hid (fun n => (below_drewN (Below.refl w.heap.size w) n))
    clear h
    go_enter Try.func48, Try.ntmps48
    go_upto_region 1 with (fail)
    go_quiet (fail)
    go_wp2
    go_ret2
    exact ⟨Turn.below (HQ.out _), .inl ⟨f, rfl, .inl rfl⟩⟩
  | ok p =>
    obtain ⟨hb, hp⟩ := h
    have k0 := hb.box.cell (j := 0) rfl
    have k1 := hb.box.cell (j := 1) rfl
    have k2 := hb.box.cell (j := 2) rfl
    have z2 := hb.box.froz (j := 2) (by simp)
    have HQ := Lib.hid (fun n => (below_drewN (Below.refl w.heap.size w) n))
    have d1 : decide ((-1 : Int) < 0) = true := rfl
    by_cases hlt : p < bs.length
    · have d2 : decide (p < bs.length) = true := decide_eq_true hlt
      clear hb
      go_enter Try.func48, Try.ntmps48
      go_upto_region 1 with (fail)
      go_quiet (fail)
      go_wp2
      go_ret2
      exact ⟨(Turn.below (HQ.out _)).set _ _ (.inl rfl), .inl ⟨p, rfl, .inr ⟨rfl, hlt⟩⟩⟩
    · have d2 : decide (p < bs.length) = false := decide_eq_false hlt
      clear hb
      go_enter Try.func48, Try.ntmps48
      go_upto_region 1 with (fail)
      go_quiet (fail)
      go_wp2
      go_ret2
      exact ⟨Turn.below (HQ.out _), .inr ⟨rfl, p, rfl, hlt⟩⟩
theorem read_bad {α : Type} {z x : α} {P : List UInt8 → Nat → Got α} {bs : List UInt8} {st : Except Nat Nat} {f : Nat} (h : Link P bs (.ok 0) x st) (hl : bs.length ≤ 1048576) (he : st = .error f ∨ (st = .ok f ∧ f < bs.length)) : readP z P bs = (z, f, 50) := by
  unfold Link at h
  unfold readP
  rw [if_neg (by omega)]
  rcases he with rfl | ⟨rfl, hf⟩
  · cases hp : P bs 0 with
    | ok y => obtain ⟨v, q⟩ := y; simp [hp] at h
    | error e => simp only [hp] at h; cases h; rfl
  · cases hp : P bs 0 with
    | ok y =>
      obtain ⟨v, q⟩ := y
      simp only [hp] at h
      obtain ⟨rfl, hq⟩ := h
      cases hq
      show (if _ then _ else _) = _
      rw [if_pos hf]
    | error e => simp [hp] at h
theorem read_ok {α : Type} {z x : α} {P : List UInt8 → Nat → Got α} {bs : List UInt8} {p : Nat} (h : Link P bs (.ok 0) x (.ok p)) (hl : bs.length ≤ 1048576) (he : ¬ p < bs.length) : readP z P bs = (x, 0, 0) := by
  unfold Link at h
  unfold readP
  rw [if_neg (by omega)]
  cases hp : P bs 0 with
  | ok y =>
    obtain ⟨v, q⟩ := y
    simp only [hp] at h
    obtain ⟨rfl, hq⟩ := h
    cases hq
    show (if _ then _ else _) = _
    rw [if_neg he]
  | error e => simp [hp] at h
end Go.Proofs.Ytlckgnemmffdkaa

/- The document's reader: numbers one behind the other, lists. -/
namespace Go.Proofs.Ytlckgnemmffdkaa
open Go.ChangeShapes Go.WideShapes Go.ChangeAt Go.RowKit
set_option maxRecDepth 100000

theorem Link.next {α β : Type} {P : List UInt8 → Nat → Got α} {F : α → List UInt8 → Nat → Got β} {bs : List UInt8} {st st1 : Except Nat Nat} {v : α} {R : β → Except Nat Nat → Prop} (hc : ∀ y st', Link (fun l p => bindP (P l p) fun a q => F a l q) bs st y st' → R y st') (hk : Link P bs st v st1) :
    ∀ y st', Link (F v) bs st1 y st' → R y st' := fun y st' h => hc y st' (Link.bind hk h)
theorem times_bad {α : Type} {one : List UInt8 → Nat → Got α} {l : List UInt8} : ∀ {k m p f : Nat}, timesP one k l p = .error f → k ≤ m → timesP one m l p = .error f
  | 0, _, _, _, h, _ => by cases h
  | k + 1, 0, _, _, _, hm => absurd hm (by omega)
  | k + 1, m + 1, p, f, h, hm => by
    simp only [timesP] at h ⊢
    cases ho : one l p with
    | error e => rw [ho] at h; exact h
    | ok y =>
      obtain ⟨x, q⟩ := y
      rw [ho] at h
      simp only [bindP] at h ⊢
      cases ht : timesP one k l q with
      | error e =>
        rw [ht] at h
        simp only [Except.error.injEq] at h
        subst h
        rw [times_bad ht (by omega : k ≤ m)]
      | ok z => rw [ht] at h; cases h
theorem Link.snoc {α : Type} {one : List UInt8 → Nat → Got α} {bs : List UInt8} {st st1 st2 : Except Nat Nat} {k : Nat} {xs : List α} {v : α} (h : Link (timesP one k) bs st xs st1) (h2 : Link one bs st1 v st2) : Link (timesP one (k + 1)) bs st (xs ++ [v]) st2 := by
  cases st with
  | error f =>
    obtain rfl : st1 = .error f := h
    exact h2
  | ok p =>
    cases ht : timesP one k bs p with
    | error f =>
      unfold Link at h
      simp only [ht] at h
      subst h
      obtain rfl : st2 = .error f := h2
      exact Link.bad _ (times_bad ht (Nat.le_succ k))
    | ok y =>
      obtain ⟨ys, q⟩ := y
      unfold Link at h
      simp only [ht] at h
      obtain ⟨rfl, rfl⟩ := h
      cases ho : one bs q with
      | error f =>
        unfold Link at h2
        simp only [ho] at h2
        subst h2
        exact Link.bad _ (times_fail ht ho (Nat.lt_succ_self k))
      | ok z =>
        obtain ⟨x, q2⟩ := z
        unfold Link at h2
        simp only [ho] at h2
        obtain ⟨rfl, rfl⟩ := h2
        exact Link.ok (times_snoc ht ho)
/-- A list broken off behind a byte that cannot stand there. -/
theorem Link.short {α : Type} {one : List UInt8 → Nat → Got α} {bs : List UInt8} {st : Except Nat Nat} {k m f : Nat} {xs : List α} (h : Link (timesP one k) bs st xs (.error f)) (hm : k ≤ m) : Link (timesP one m) bs st xs (.error f) := by
  cases st with
  | error f' => exact h
  | ok p =>
    cases ht : timesP one k bs p with
    | error f' =>
      unfold Link at h
      simp only [ht] at h
      cases h
      exact Link.bad _ (times_bad ht hm)
    | ok y =>
      obtain ⟨ys, q⟩ := y
      unfold Link at h
      simp [ht] at h
theorem cnt_kk {bs : List UInt8} {st st' : Except Nat Nat} {v size : Nat} (h : Link (countP size) bs st v st') (hb : bs.length ≤ 250000 * size) (hv : (∃ f, st' = .error f) → v = 0) : v ≤ 250000 := by
  cases st with
  | error f => have := hv ⟨f, h⟩; omega
  | ok p =>
    cases hc : countP size bs p with
    | error f => unfold Link at h; simp only [hc] at h; have := hv ⟨f, h⟩; omega
    | ok y =>
      obtain ⟨x, q⟩ := y
      unfold Link at h
      simp only [hc] at h
      obtain ⟨rfl, -⟩ := h
      have h1 := count_le hc
      have h2 : (bs.length - q) / size ≤ bs.length / size := Nat.div_le_div_right (Nat.sub_le _ _)
      have h3 : bs.length / size ≤ 250000 := by
        by_cases h0 : size = 0
        · subst h0; simp
        · exact Nat.div_le_of_le_mul (by rw [Nat.mul_comm]; exact hb)
      omega
/-- A list of the document's so far, in a field of a variable of its own. -/
structure Lr (w w' : World) (g X ox : Nat) (a : Option Addr) (c : Nat) (bs : List UInt8) (st : Except Nat Nat) (cs : List Value) (T : TypeId) (size : Nat) (a1 : Option Addr) (n c1 : Nat) (xs : List Value) : Prop where
  rs : Rs w' g a c bs st
  turn : Turn g X w w'
  box : Box w' X (cs.set ox (.slice a1 n c1))
  can : Can w' w.heap.size T size a1 n c1 xs
  far : ∀ b o s, a1 = some ⟨b, o, s⟩ → w.heap.size ≤ b ∧ b < w'.heap.size
  gl : g < w.heap.size
  xl : X < w.heap.size
  off : Off g (rowA a bs) X
  offs : ∀ k, w.heap.size ≤ k → Off g (rowA a bs) k
  ox : ox < cs.length
theorem Lr.one {w wr w2 : World} {g X ox c T size n c1 : Nat} {a a1 : Option Addr} {bs : List UInt8} {st st' : Except Nat Nat} {cs xs : List Value} (h : Lr w wr g X ox a c bs st cs T size a1 n c1 xs) (ht : Turn g g wr w2) (hs : Rs w2 g a c bs st') : Lr w w2 g X ox a c bs st' cs T size a1 n c1 xs := by
  have hsz := h.turn.size
  have hg := h.gl
  have hm : Mid w.heap.size wr.heap.size wr w2 := ⟨ht.size, fun k h1 h2 => ht.block k h2 (by omega)⟩
  exact ⟨hs, Keep.trans h.turn (ht.mono fun k _ e => by rcases e with e | e | e; exact .inl e; exact .inl e; exact .inr (.inr (by omega))), h.box.keep (by rw [List.length_set]; have := h.ox; omega) ht (by have := h.off.ne; have := h.xl; omega), can_mid h.can hm (fun b o s e => .inl (h.far b o s e).1) (Nat.le_refl _) (Nat.le_refl _), fun b o s e => ⟨(h.far b o s e).1, by have := (h.far b o s e).2; have := ht.size; omega⟩, hg, h.xl, h.off, h.offs, h.ox⟩
theorem Lr.below {w wr w2 : World} {g X ox c T size n c1 : Nat} {a a1 : Option Addr} {bs : List UInt8} {st : Except Nat Nat} {cs xs : List Value} (h : Lr w wr g X ox a c bs st cs T size a1 n c1 xs) (hb : Below wr.heap.size wr w2) : Lr w w2 g X ox a c bs st cs T size a1 n c1 xs := h.one (Turn.below hb) (h.rs.below hb)
theorem Lr.push {w w2 W0 w3 : World} {g X ox c T size n c1 c2 : Nat} {a a1 a2 : Option Addr} {bs : List UInt8} {st : Except Nat Nat} {cs xs ns : List Value} (h : Lr w w2 g X ox a c bs st cs T size a1 n c1 xs) (hb : Below w2.heap.size w2 W0)
    (hcan : Can w3 w.heap.size T size a2 (n + 1) c2 (xs ++ ns)) (hg : W0.grownBy w3 (Value.slice a1 n c1).ownBlock) (hown : ∀ b o s, a2 = some ⟨b, o, s⟩ → w.heap.size ≤ b) (hlt : ∀ b o s, a2 = some ⟨b, o, s⟩ → b < w3.heap.size) :
    Lr w (w3.setCell ⟨X, ox, none⟩ (.slice a2 (n + 1) c2)) g X ox a c bs st cs T size a2 (n + 1) c2 (xs ++ ns) ∧ Box w3 X (cs.set ox (.slice a1 n c1)) ∧ (∀ k, k < w2.heap.size → (∀ o s, a1 ≠ some ⟨k, o, s⟩) → w3.heap[k]? = w2.heap[k]?) := by
  have hs := h.turn.size
  have hgl := h.gl
  have hx := h.xl
  have ow : ∀ k, (∀ o s, a1 ≠ some ⟨k, o, s⟩) → some k ≠ (Value.slice a1 n c1).ownBlock := fun k hk e => by
    cases a1 with
    | none => simp [Value.ownBlock] at e
    | some ad =>
      obtain ⟨y, u, v⟩ := ad
      simp [Value.ownBlock] at e
      subst e
      exact hk u v rfl
  have hkeep : ∀ k, k < w2.heap.size → (∀ o s, a1 ≠ some ⟨k, o, s⟩) → w3.heap[k]? = w2.heap[k]? := fun k hk hne => by
    rw [hg.block k (Nat.lt_of_lt_of_le hk hb.size) (ow k hne), hb.block k hk]
  have hks : Keep (fun k => w.heap.size ≤ k) w2 w3 := ⟨hg.os.trans hb.os, hg.tape.trans hb.tape, hg.output.trans hb.output, Nat.le_trans hb.size hg.size, fun k hk hn => hkeep k hk (fun o s e => hn (h.far k o s e).1)⟩
  have hbx : Box w3 X (cs.set ox (.slice a1 n c1)) := h.box.keep (by rw [List.length_set]; have := h.ox; omega) hks (by omega)
  have hset := hbx.set (i := ox) (by rw [List.length_set]; exact h.ox) (.slice a2 (n + 1) c2)
  rw [List.set_set] at hset
  refine ⟨⟨(h.rs.keep hks h.offs).put h.off, ?_, hset, ?_, fun b o s e => ⟨hown b o s e, by have := hlt b o s e; simpa using this⟩, hgl, hx, h.off, h.offs, h.ox⟩, hbx, hkeep⟩
  · exact (Keep.trans h.turn (hks.mono fun k _ e => .inr (.inr e))).set _ _ (.inr (.inl rfl))
  · exact can_mid hcan ((Mid.refl w.heap.size w3.heap.size w3).setCell ⟨X, ox, none⟩ _ (.inl hx)) (fun b o s e => .inl (hown b o s e)) (Nat.le_refl _) (Nat.le_refl _)
end Go.Proofs.Ytlckgnemmffdkaa

/- Messages too great for the law. -/
namespace Go.Proofs.Ytlckgnemmffdkaa
open Go.ChangeShapes Go.WideShapes Go.ChangeAt Go.RowKit
set_option maxRecDepth 100000

def sumD : List (WEnt × PEnt) → Nat
  | [] => 0
  | y :: es => y.1.data.length + sumD es
theorem sumD_take {es : List (WEnt × PEnt)} {k : Nat} (hk : k < es.length) : sumD (es.take (k + 1)) = sumD (es.take k) + es[k].1.data.length := by
  induction es generalizing k with
  | nil => exact absurd hk (Nat.not_lt_zero _)
  | cons y es ih =>
    cases k with
    | zero => simp [sumD]
    | succ k =>
      rw [List.take_succ_cons, List.take_succ_cons, sumD, sumD, ih (by simpa using hk), List.getElem_cons_succ]; omega
/-- What the test of entries says: where it says no, they are few. -/
def RetEs (w : World) (es : List (WEnt × PEnt)) (e : Ending) (w' : World) : Prop := ∃ b : Bool, e = .returned (.bool b) ∧ w' = w ∧ (b = false → es.length ≤ 40 ∧ sumD es ≤ 4000)
set_option maxHeartbeats 4000000 in
theorem entries_any (es : List (WEnt × PEnt)) (p : Option Addr) (n c : Nat) (w : World) (hn : es.length = n) (he : Row w p (es.flatMap cellsEn)) (hl : ∀ y ∈ es, y.1.data.length ≤ 1000000000000000) (hl2 : n ≤ 1000000000000000) :
    Calls Try.prog 69 #[.slice p n c] w (RetEs w es) := by
  have HN := Lib.hid hn
  have HE := Lib.hid he
  have HL := Lib.hid hl
  clear hn he hl
  go_enter Try.func69, Try.ntmps69
  go_wp2
  go_loopw [3, 7] (fun t i wr => ∃ k : Nat, k ≤ n ∧ i = .int .i64 k ∧ Hid (t = .int .i64 (sumD (es.take k) : Nat)) ∧ Hid (wr = w) ∧ Hid (k ≤ 40 ∧ sumD (es.take k) ≤ 4000)) (fun _ i _ => n - (intOf i).toNat)
  case atStart => exact ⟨0, by omega, rfl, rfl, rfl, by show _ ∧ _; simp [sumD]⟩
  case round =>
    obtain ⟨k, hk, rfl, ht, hw, HS⟩ := hrel
    have ht2 := ht.out
    have hw2 := hw.out
    subst ht2 hw2
    clear ht hw
    by_cases hlt : k < n
    · have h1 : k < es.length := by rw [HN.out]; exact hlt
      obtain ⟨b, o, hp, hc⟩ := rows_at (cells := cellsEn) (size := 5) (fun _ => rfl) HE.out h1 (by decide)
      have q4 := hc 4 (by decide)
      have HST := Lib.hid (sumD_take h1)
      have hdl := HL.out _ (List.getElem_mem h1)
      generalize es[k]'h1 = x at q4 HST hdl
      obtain ⟨⟨v0, v1, v2, v3, v4⟩, ⟨r0, r1⟩⟩ := x
      rw [show (cellsEn ((⟨v0, v1, v2, v3, v4⟩, (r0, r1)) : EntP))[4]? = some (.slice r0 v4.length r1) from rfl] at q4
      simp only at hdl
      have HPP := Lib.hid hp
      clear hc h1
      have hs1 := HS.out.1
      have hs2 := HS.out.2
      have hd : decide (k < n) = true := decide_eq_true hlt
      have HST2 : Hid (sumD (es.take (k + 1)) = sumD (es.take k) + v4.length) := HST
      clear HST
      generalize sumD (es.take k) = T at hs2 HST2 HS ⊢
      have ew : IntKind.i64.wrap ((T : Int) + v4.length) = T + v4.length := IntWalk.i64_in _ (by omega)
      subst hp
      by_cases h40 : 40 ≤ k
      · have d1 : decide ((40 : Int) ≤ k) = true := decide_eq_true (by omega)
        go_wp2
        go_ret
        exact ⟨true, rfl, rfl, fun h => by cases h⟩
      · have d1 : decide ((40 : Int) ≤ k) = false := decide_eq_false (by omega)
        by_cases hb : 4000 < T + v4.length
        · have d2 : decide ((4000 : Int) < (T : Int) + v4.length) = true := decide_eq_true (by omega)
          go_wp2
          go_ret
          exact ⟨true, rfl, rfl, fun h => by cases h⟩
        · have d2 : decide ((4000 : Int) < (T : Int) + v4.length) = false := decide_eq_false (by omega)
          go_wp2
          exact ⟨⟨k + 1, by omega, by go_num, by (show _ = _); rw [HST2.out]; simp, (by first | exact trivial | exact rfl), by (show _ ∧ _); rw [HST2.out]; omega⟩, by simp [intOf]; omega⟩
    · obtain rfl : k = n := by omega
      have hd : decide (k < k) = false := decide_eq_false (by omega)
      go_wp2
      go_ret
      refine ⟨false, rfl, rfl, fun _ => ?_⟩
      have h := HS.out
      rw [List.take_of_length_le (by rw [HN.out]; exact Nat.le_refl _)] at h
      exact ⟨by rw [HN.out]; exact h.1, h.2⟩
theorem sumD_flat (es : List (WEnt × PEnt)) : (es.flatMap fun y => encWEnt y.1).length = es.length * 26 + sumD es := by
  induction es with
  | nil => rfl
  | cons y es ih =>
    rw [List.flatMap_cons, List.length_append, ih, List.length_cons, Nat.succ_mul, sumD]
    have : (encWEnt y.1).length = 26 + y.1.data.length := by simp [encWEnt, be8_length]; omega
    omega
/-- Few entries, little data. -/
structure Few (v : WMsg) : Prop where
  ents : v.entries.length ≤ 40
  bytes : (v.entries.flatMap encWEnt).length ≤ 6000
  sdata : v.sdata.length ≤ 4000
  data : v.data.length ≤ 4000
theorem Few.ok {v : WMsg} (h : Few v) (hg : goodWMsg v) : OkMsg v := ⟨hg.1, fun y hy => (hg.2.2.2.2.2.2.2.2.1.2 y hy).2.1, by
  have h1 := h.bytes
  have h2 := h.sdata
  have h3 := h.data
  simp only [encWMsg, List.length_append, be8_length, List.length_cons, List.length_nil]
  omega⟩
def RetGr (w : World) (v : WMsg) (e : Ending) (w' : World) : Prop := ∃ b : Bool, e = .returned (.bool b) ∧ Below w.heap.size w w' ∧ (b = false → Few v)
set_option maxHeartbeats 4000000 in
theorem great_message (v : WMsg) (p : PMsg) (w : World) (hp : LowMsg w.heap.size w v p) (hl : v.entries.length ≤ 1000000000000000) (hl2 : ∀ y ∈ v.entries, y.data.length ≤ 1000000000000000) :
    Calls Try.prog 34 #[valMsg v p] w (RetGr w v) := by
  obtain ⟨kind, src, dst, term, index, last, commit, ok, entries, sindex, sterm, sset, sdata, data⟩ := v
  obtain ⟨p0, p1, p2, p3, p4, p5⟩ := p
  obtain ⟨⟨es, hes, hrow, -⟩, -, -⟩ := hp
  simp only at hes hrow hl hl2
  have HFEW : Hid (es.length ≤ 40 → sumD es ≤ 4000 → sdata.length ≤ 4000 → data.length ≤ 4000 → Few ⟨kind, src, dst, term, index, last, commit, ok, entries, sindex, sterm, sset, sdata, data⟩) := fun h1 h2 h3 h4 => by
    subst hes
    have h5 := sumD_flat es
    exact ⟨by simpa using h1, by simp only [map_flat]; omega, h3, h4⟩
  obtain ⟨n, hn⟩ : ∃ n, n = entries.length := ⟨_, rfl⟩
  have hen : es.length = n := by rw [hn, ← hes, List.length_map]
  unfold valMsg
  simp only
  rw [← hn] at hl ⊢
  have hb : Below w.heap.size w (w.alloc (.cells #[.int .i8 kind, .int .i64 src, .int .i64 dst, .int .i64 term, .int .i64 index, .int .i64 last, .int .i64 commit, .bool ok, .slice p0 n p1, .int .i64 sindex, .int .i64 sterm, B sset, .slice p2 sdata.length p3, .slice p4 data.length p5] 67)) := mid_alloc' (Below.refl _ _)
  have HEN := Lib.hid (entries_any es p0 n p1 _ hen (hrow.row.below hb) (fun y hy => hl2 _ (by rw [← hes]; exact List.mem_map.2 ⟨y, hy, rfl⟩)) hl)
  have HB := Lib.hid hb
  clear hb hen hn hes hrow hl hl2
  go_enter Try.func34, Try.ntmps34
  go_wp2_with (go_at_call 69; ((with_reducible refine HEN.out.mono ?_); rintro e w2 ⟨b, rfl, rfl, hf⟩; have HF := Lib.hid hf; clear hf; cases b))
  all_goals (try go_wp2)
  all_goals (try go_ret)
  all_goals (refine ⟨_, rfl, HB.out, fun h => ?_⟩)
  all_goals (first | (cases h; done) | (have hF := HF.out (by first | trivial | rfl); exact HFEW.out hF.1 hF.2 (by simp at *; omega) (by simp at *; omega)))
end Go.Proofs.Ytlckgnemmffdkaa
