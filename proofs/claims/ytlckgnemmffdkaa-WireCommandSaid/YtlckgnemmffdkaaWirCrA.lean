/- A reader of bytes: an answer. -/
import Derived.Test.YtlckgnemmffdkaaWirCrB
namespace Go.Proofs.Ytlckgnemmffdkaa
open Go.ChangeShapes Go.WideShapes Go.ChangeAt Go.RowKit
set_option maxRecDepth 100000

/-- Numbers put into cells that follow one another. -/
def putI (cs : List Value) (o : Nat) (xs : List Int) : List Value := cs.take o ++ (xs.map (.int .i64) ++ cs.drop (o + xs.length))
theorem putI_nil (cs : List Value) (o : Nat) : putI cs o [] = cs := by unfold putI; simp
theorem putI_length {cs : List Value} {o : Nat} {xs : List Int} (h : o + xs.length ≤ cs.length) : (putI cs o xs).length = cs.length := by unfold putI; simp; omega
theorem putI_snoc {cs : List Value} {o : Nat} {xs : List Int} (h : o + xs.length < cs.length) (v : Int) : (putI cs o xs).set (o + xs.length) (.int .i64 v) = putI cs o (xs ++ [v]) := by
  have hl : (cs.take o).length = o := by rw [List.length_take]; omega
  unfold putI
  rw [List.set_append, if_neg (by rw [hl]; omega), hl, Nat.add_sub_cancel_left, List.set_append, if_neg (by simp), List.length_map, Nat.sub_self, List.drop_eq_getElem_cons h, List.set_cons_zero]
  simp [Nat.add_assoc]
theorem times_snoc {α : Type} {one : List UInt8 → Nat → Got α} {l : List UInt8} : ∀ {k p q q' : Nat} {xs : List α} {v : α}, timesP one k l p = .ok (xs, q) → one l q = .ok (v, q') → timesP one (k + 1) l p = .ok (xs ++ [v], q')
  | 0, p, q, q', xs, v, h, h2 => by
    simp only [timesP, Except.ok.injEq, Prod.mk.injEq] at h
    obtain ⟨rfl, rfl⟩ := h
    simp only [timesP, h2, bindP, List.nil_append]
  | k + 1, p, q, q', xs, v, h, h2 => by
    simp only [timesP] at h
    cases ho : one l p with
    | error e => rw [ho] at h; cases h
    | ok y =>
      obtain ⟨x, m⟩ := y
      rw [ho] at h
      simp only [bindP] at h
      cases ht : timesP one k l m with
      | error e => rw [ht] at h; cases h
      | ok z =>
        obtain ⟨ys, m2⟩ := z
        rw [ht] at h
        simp only [Except.ok.injEq, Prod.mk.injEq] at h
        obtain ⟨rfl, rfl⟩ := h
        have := times_snoc ht h2
        rw [timesP, ho]
        simp only [bindP]
        rw [this]
        simp
theorem times_fail {α : Type} {one : List UInt8 → Nat → Got α} {l : List UInt8} : ∀ {k m p q f : Nat} {xs : List α}, timesP one k l p = .ok (xs, q) → one l q = .error f → k < m → timesP one m l p = .error f
  | 0, 0, _, _, _, _, _, _, hm => absurd hm (by omega)
  | 0, m + 1, p, q, f, xs, h, h2, _ => by
    simp only [timesP, Except.ok.injEq, Prod.mk.injEq] at h
    obtain ⟨rfl, rfl⟩ := h
    simp only [timesP, h2, bindP]
  | k + 1, 0, _, _, _, _, _, _, hm => absurd hm (by omega)
  | k + 1, m + 1, p, q, f, xs, h, h2, hm => by
    simp only [timesP] at h
    cases ho : one l p with
    | error e => rw [ho] at h; cases h
    | ok y =>
      obtain ⟨x, m1⟩ := y
      rw [ho] at h
      simp only [bindP] at h
      cases ht : timesP one k l m1 with
      | error e => rw [ht] at h; cases h
      | ok z =>
        obtain ⟨ys, m2⟩ := z
        rw [ht] at h
        simp only [Except.ok.injEq, Prod.mk.injEq] at h
        obtain ⟨rfl, rfl⟩ := h
        have := times_fail (m := m) ht h2 (by omega)
        rw [timesP, ho]
        simp only [bindP]
        rw [this]
theorem bindP_assoc {α β γ : Type} (x : Got α) (f : α → Nat → Got β) (g : β → Nat → Got γ) : bindP (bindP x f) g = bindP x (fun a q => bindP (f a q) g) := by cases x <;> rfl
theorem bindP_ok {α β : Type} (a : α) (q : Nat) (f : α → Nat → Got β) : bindP (.ok (a, q)) f = f a q := rfl
theorem wAnsP_eq (l : List UInt8) (p : Nat) : wAnsP l p = bindP (numP l p) fun e q => bindP (timesP numP 4 l q) fun xs q => .ok (⟨e, xs.getD 0 0, xs.getD 1 0, xs.getD 2 0, xs.getD 3 0⟩, q) := by
  unfold wAnsP
  simp only [timesP, bindP_assoc, bindP_ok, List.getD_cons_zero, List.getD_cons_succ]
theorem Box.sets {g : Nat} : ∀ (vs : List Value) (i : Nat) (w : World) (cs : List Value), Box w g cs → i + vs.length ≤ cs.length → Box (w.setCells g i vs) g (cs.take i ++ (vs ++ cs.drop (i + vs.length)))
  | [], i, w, cs, h, _ => by rw [World.setCells]; simpa using h
  | v :: vs, i, w, cs, h, hl => by
    rw [List.length_cons] at hl
    have h2 := Box.sets vs (i + 1) _ _ (h.set (i := i) (by omega) v) (by rw [List.length_set]; omega)
    rw [World.setCells]
    have e : (cs.set i v).take (i + 1) ++ (vs ++ (cs.set i v).drop (i + 1 + vs.length)) = cs.take i ++ (v :: vs ++ cs.drop (i + (v :: vs).length)) := by
      rw [List.take_set, List.drop_set_of_lt (by omega), List.length_cons, List.take_succ_eq_append_getElem (by omega), List.set_append, if_neg (by rw [List.length_take]; omega)]
      simp [List.length_take, Nat.min_eq_left (show i ≤ cs.length by omega), Nat.add_assoc, Nat.add_comm 1]
    rw [e] at h2; exact h2
theorem Box.whole {g : Nat} {w : World} {cs vs : List Value} (h : Box w g cs) (hl : vs.length = cs.length) : Box (w.setCells g 0 vs) g vs := by
  have := Box.sets vs 0 w cs h (by omega)
  simpa [hl] using this
theorem Keep.sets {S : Nat → Prop} {g : Nat} (hg : S g) : ∀ (vs : List Value) (i : Nat) {w w' : World}, Keep S w w' → Keep S w (w'.setCells g i vs)
  | [], _, _, _, h => h
  | v :: vs, i, _, _, h => Keep.sets hg vs (i + 1) (h.set ⟨g, i, none⟩ v hg)
abbrev ansL (x : WAns) : List Int := [x.e, x.rate, x.burst, x.lease, x.size]
abbrev nums (xs : List Int) : Nat → Int := fun k => xs.getD k 0
set_option maxHeartbeats 2000000 in
theorem answer_t (g c p gx ox : Nat) (a : Option Addr) (bs : List UInt8) (cs : List Value) (e0 : Int) (w : World) (h : Cr w g a c bs p) (hl : bs.length ≤ 2000000) (hx : Box w gx cs) (hgx : Off g (rowA a bs) gx) (hox : ox + 5 ≤ cs.length) (hv : cs[ox]? = some (.int .i64 e0)) :
    Calls Try.prog 59 #[.pointer (some ⟨g, 0, none⟩), .pointer (some ⟨gx, ox, none⟩)] w (RetT w g gx cs.length a c bs (wAnsP bs p) (fun v w' => Box w' gx (putI cs ox (ansL v)))) := by
  have x0 := hx.cell hv
  have hgl := hx.lt (by omega)
  obtain ⟨W, hW⟩ : ∃ W, W = w.alloc (.cells #[.int .i64 e0] 3) := ⟨_, rfl⟩
  have hB : Below w.heap.size w W := by rw [hW]; exact (Below.refl _ _).alloc (Nat.le_refl _) _
  have hT : Box W w.heap.size [.int .i64 e0] := by rw [hW]; exact Box.of_alloc (Below.refl _ _)
  have HS : Hid (Calls Try.prog 79 #[.pointer (some ⟨g, 0, none⟩), .pointer (some ⟨w.heap.size, 0, none⟩)] W (RetPut (.int .i64) W g w.heap.size 0 a c bs [.int .i64 e0] (numP bs p))) := number_t g c p w.heap.size 0 a bs _ W (h.below hB) hl hT (h.new (Nat.le_refl _)) (by simp)
  have HX := Lib.hid (hx.next (by omega) hB)
  have HB := Lib.hid hB
  have HE := Lib.hid (hx.lt (by omega))
  clear h hx hB hT hv
  rw [hW] at HS
  have HW := Lib.hid hW
  clear hW
  go_enter Try.func59, Try.ntmps59
  go_upto_region 3 with (go_at_call 79; ((with_reducible refine HS.out.mono ?_); rw [← HW.out]; rintro en w1 ⟨ht, ⟨v, q, hr, rfl, hc, hb⟩ | ⟨f, hr, rfl, hb⟩⟩ <;> have HT1 := Lib.hid ht <;> have HR := Lib.hid hr <;> have HX1 := Lib.hid (ht.off HX.out (by omega) hgx.ne (by have := HE.out; omega)) <;> clear ht hr; all_goals (first | (have y0 := hb.cell (j := 0) rfl; have x1 := HX1.out.cell (j := ox) (List.getElem?_eq_getElem (by omega)); have z1 := HX1.out.froz (j := ox) (by omega); have HC1 := Lib.hid hc; clear hc hb) | skip)))
  · have HC2 := Lib.hid (HC1.out.keep ((Keep.refl (fun k => k = gx) _).set ⟨gx, ox, none⟩ (.int .i64 v) rfl) (fun k e => by subst e; exact hgx))
    have HX2 := Lib.hid (show Box _ gx (putI cs ox [v]) by have h1 := HX1.out.set (i := ox) (by omega) (.int .i64 v); have h2 := putI_snoc (cs := cs) (o := ox) (xs := []) (by simp; omega) v; rw [putI_nil, List.length_nil, Nat.add_zero, List.nil_append] at h2; rw [h2] at h1; exact h1)
    have HT2 := Lib.hid ((HT1.out.inner (Turn.below (g := g) (gx := gx) HB.out) (Nat.le_refl _)).set ⟨gx, ox, none⟩ (.int .i64 v) (.inr (.inl rfl)))
    clear y0 x1 z1 HC1 HX1 HT1 x0
    generalize w1.setCell ⟨gx, ox, none⟩ (.int .i64 v) = w2 at HC2 HX2 HT2 ⊢
    go_quiet (fail)
    have HC3 := Lib.hid (HC2.out.below (below_drewN (Below.refl w2.heap.size w2) nq))
    have HX3 := Lib.hid (HX2.out.next (by rw [putI_length (by simp; omega)]; omega) (below_drewN (Below.refl w2.heap.size w2) nq))
    have HT3 := Lib.hid (Turn.next HT2.out (Turn.below (below_drewN (Below.refl w2.heap.size w2) nq)))
    clear HC2 HX2 HT2
    generalize w2.drewN nq = w3 at HC3 HX3 HT3 ⊢
    go_wp2
    go_loopw [6, 30] (fun _ i wr => ∃ (xs : List Int) (q1 : Nat), xs.length ≤ 4 ∧ i = .int .i64 xs.length ∧ Hid (Cr wr g a c bs q1) ∧ Hid (Turn g gx w wr) ∧ Hid (Box wr gx (putI cs ox (v :: xs))) ∧ Hid (timesP numP xs.length bs q = .ok (xs, q1))) (fun _ i _ => 4 - (intOf i).toNat)
    case atStart => exact ⟨[], q, by simp, rfl, HC3.out, HT3.out, HX3.out, rfl⟩
    case round =>
      obtain ⟨xs, q1, hk, rfl, hcr, htr, hbx, hpr⟩ := hrel
      by_cases hlt : xs.length < 4
      · have hnw := number_t g c q1 gx (ox + (xs.length + 1)) a bs _ wr hcr.out hl hbx.out hgx (by rw [putI_length (by simp; omega)]; omega)
        have HNW := Lib.hid hnw
        clear hnw
        have hidx : ∀ w, (Instr.index 156 (.agg #[.pointer (some ⟨gx, ox + 1, none⟩), .pointer (some ⟨gx, ox + 2, none⟩), .pointer (some ⟨gx, ox + 3, none⟩), .pointer (some ⟨gx, ox + 4, none⟩)]) (.int .i64 xs.length)).run Try.prog w = .ok (.pointer (some ⟨gx, ox + (xs.length + 1), none⟩)) w := fun _ => by
          clear hcr htr hbx hpr HNW
          generalize xs.length = k at hlt
          rcases (show k = 0 ∨ k = 1 ∨ k = 2 ∨ k = 3 by omega) with rfl | rfl | rfl | rfl <;> kernel_rfl
        go_wp2_with (go_at_call 79; ((with_reducible refine HNW.out.mono ?_); rintro en w4 ⟨ht, ⟨v4, q4, hr, rfl, hc, hb⟩ | ⟨f, hr, rfl, hb⟩⟩ <;> have HT4 := Lib.hid (Turn.next htr.out ht) <;> have HR4 := Lib.hid hr <;> have HB4 := Lib.hid hb <;> clear ht hr hb; all_goals (first | (have HC4 := Lib.hid hc; clear hc) | skip)))
        · have hb := HB4.out
          rw [show ox + (xs.length + 1) = ox + (v :: xs).length by simp, putI_snoc (by simp; omega)] at hb
          exact ⟨⟨xs ++ [v4], q4, by simp; omega, by simp, HC4.out, HT4.out, hb, by (show _ = _); rw [List.length_append]; exact times_snoc hpr.out HR4.out⟩, by simp [intOf]; omega⟩
        · refine ⟨rfl, HT4.out, .inr ⟨_, ?_, rfl, ?_⟩⟩
          · rw [wAnsP_eq, HR.out, bindP_ok, times_fail hpr.out HR4.out hlt]; rfl
          · have h1 := HB4.out
            rw [putI_length (by simp; omega)] at h1; exact h1
      · have h4 : xs.length = 4 := by omega
        have HPR := hpr
        obtain ⟨y0, y1, y2, y3, rfl⟩ : ∃ y0 y1 y2 y3, xs = [y0, y1, y2, y3] := by
          match xs, h4 with
          | [y0, y1, y2, y3], _ => exact ⟨y0, y1, y2, y3, rfl⟩
        clear h4 hlt hk hpr
        go_wp2
        go_end0
        refine ⟨htr.out, .inl ⟨⟨v, y0, y1, y2, y3⟩, q1, ?_, rfl, hcr.out, hbx.out⟩⟩
        have := HPR.out
        rw [wAnsP_eq, HR.out, bindP_ok]
        rw [show [y0, y1, y2, y3].length = 4 from rfl] at this
        rw [this]; rfl
  · refine ⟨rfl, HT1.out.inner (Turn.below (g := g) (gx := gx) HB.out) (Nat.le_refl _), .inr ⟨_, ?_, rfl, .of HX1.out rfl⟩⟩
    rw [wAnsP_eq, HR.out]; rfl
end Go.Proofs.Ytlckgnemmffdkaa
