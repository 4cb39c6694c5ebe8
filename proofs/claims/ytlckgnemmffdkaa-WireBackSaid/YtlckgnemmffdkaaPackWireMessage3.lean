import Derived.Test.YtlckgnemmffdkaaWirCrC
import Derived.Test.YtlckgnemmffdkaaPackWireMessage2
import Derived.Deep.RegionLaw
import Derived.Test.YtlckgnemmffdkaaPackWireMessage1
import Derived.Test.YtlckgnemmffdkaaWirRefNum
import Derived.Test.YtlckgnemmffdkaaWirUnf
set_option linter.unusedVariables false
set_option linter.unusedSimpArgs false
/- A reader of bytes: bytes taken. -/
namespace Go.Proofs.Ytlckgnemmffdkaa
open Go.ChangeShapes Go.WideShapes Go.ChangeAt Go.RowKit
set_option maxRecDepth 100000

/-- Bytes in a new row, named in a cell of the variable. -/
def IsBytes (w0 : World) (gx ox : Nat) (cs : List Value) (v : List UInt8) (w' : World) : Prop := ∃ a' c', Box w' gx (cs.set ox (.slice a' v.length c')) ∧ RowB w' a' v ∧ v.length ≤ c' ∧ ∀ b o s, a' = some ⟨b, o, s⟩ → w0.heap.size ≤ b
theorem Turn.of' {g gx : Nat} {w w' : World} (h : Keep (fun k => k = g ∨ w.heap.size ≤ k) w w') : Turn g gx w w' := h.mono fun k _ e => by rcases e with e | e; exact .inl e; exact .inr (.inr e)
theorem grown_below {w w' : World} (h : w.grownBy w' (Value.slice none 0 0).ownBlock) : Below w.heap.size w w' := ⟨h.os, h.tape, h.output, h.size, fun k hk => h.block k hk (by simp [Value.ownBlock])⟩
theorem count_le {bs : List UInt8} {size p v q : Nat} (h : countP size bs p = .ok (v, q)) : v ≤ (bs.length - q) / size := by
  unfold countP at h
  cases hs : numP bs p with
  | error e => rw [hs] at h; cases h
  | ok y =>
    obtain ⟨b, m⟩ := y
    rw [hs] at h
    simp only [bindP] at h
    split at h
    · cases h
    · simp only [Except.ok.injEq, Prod.mk.injEq] at h
      obtain ⟨rfl, rfl⟩ := h
      omega
set_option maxHeartbeats 1000000 in
theorem bytes_t (g c p gx ox : Nat) (a : Option Addr) (bs : List UInt8) (cs : List Value) (a0 : Option Addr) (n0 c0 : Nat) (w : World) (h : Cr w g a c bs p) (hl : bs.length ≤ 2000000) (hx : Box w gx cs) (hgx : Off g (rowA a bs) gx) (hox : ox < cs.length) (hv : cs[ox]? = some (.slice a0 n0 c0)) :
    Calls Try.prog 82 #[.pointer (some ⟨g, 0, none⟩), .pointer (some ⟨gx, ox, none⟩)] w (RetT w g gx cs.length a c bs (bytesP bs p) (IsBytes w gx ox cs)) := by
  have x0 := hx.cell hv
  have hgl := hx.lt (by omega)
  have HCO : Hid (Calls Try.prog 100 #[.pointer (some ⟨g, 0, none⟩), .int .i64 n0, .int .i64 1] w (RetCount w g a c bs (countP 1 bs p))) := count_t g c p 1 n0 a bs w h hl (by omega) (by omega)
  have HX := Lib.hid hx
  have HE := Lib.hid (hx.lt (by omega))
  clear h hx hv
  go_enter Try.func82, Try.ntmps82
  go_wp2_with (first
    | (have hgn := HR2; clear hgn; at_builtin; (refine wpList_near el_bytes rfl (.const (.slice none 0 0)) (.tmp 18) rfl w2.heap.size none 0 0 [] rfl (Can.nil _ _ _ _) a2 v v (((bs.drop q).take v).map B) rfl (by rw [List.length_map, HL.out, Nat.mul_one]) HR2.out (bytes_one _) (by omega) (Nat.le_refl _) ?_); intro a3 c3 w3 hcan3 hg3 hn3; have HX3 := Lib.hid (HX2.out.next (by omega) (grown_below hg3)); have x3 := HX3.out.cell (List.getElem?_eq_getElem hox); have z3 := HX3.out.froz hox; have HN3 := Lib.hid hn3; have HCAN3 := Lib.hid hcan3; have HG3 := Lib.hid (grown_below hg3); clear hcan3 hg3 hn3)
    | (go_at_call 99; ((with_reducible refine HN.out.mono ?_); rintro e w2 ⟨a2, rfl, hr2, hc2, hk2⟩; have HX2 := Lib.hid (HX1.out.keep (by omega) hk2 hgx.ne); have HC2 := Lib.hid hc2; have HR2 := Lib.hid hr2; have HK2 := Lib.hid hk2; have x2 := HX2.out.cell (List.getElem?_eq_getElem hox); have z2 := HX2.out.froz hox; clear hr2 hc2 hk2))
    | (go_at_call 100; ((with_reducible refine HCO.out.mono ?_); rintro e w1 ⟨ht, ⟨v, q, hr, rfl, hc⟩ | ⟨f, hr, rfl⟩⟩ <;> have HT1 := Lib.hid (Turn.of' (gx := gx) ht) <;> have HR := Lib.hid hr <;> have HX1 := Lib.hid (HX.out.keep (by omega) ht (by have := HE.out; have := hgx.ne; omega)) <;> clear ht; all_goals (first | (have HC1 := Lib.hid hc; have HL := Lib.hid (show ((bs.drop q).take v).length = v by have := count_le hr; rw [Nat.div_one] at this; rw [List.length_take, List.length_drop]; omega); have hv2 : v ≤ 2000000 := (by have := count_le hr; rw [Nat.div_one] at this; omega); have HN := Lib.hid (need_ok g c q v a bs w1 hc hl (by have := count_le hr; rw [Nat.div_one] at this; omega)); have x1 := HX1.out.cell (List.getElem?_eq_getElem hox); have z1 := HX1.out.froz hox; have r2 := hc.box.cell (j := 2) rfl; clear hc hr) | (clear hr)))))
  · first | go_end0 | refine bodyPost_ret (results_none rfl _ _ _) rfl ?_
    have hb := HG3.out
    have HT3 : Turn g gx w w3 := (HT1.out.next (HK2.out.turn (gx := gx) (fun k e => .inl e))).next (Turn.below hb)
    have hrow := HCAN3.out.row
    refine ⟨HT3.set _ _ (.inr (.inl rfl)), .inl ⟨_, _, by (show bindP _ _ = _); rw [HR.out]; (show needP _ _ _ = _); unfold needP; rw [if_neg (by have := count_le HR.out; rw [Nat.div_one] at this; omega)], rfl, (HC2.out.below hb).keep ((Keep.refl (fun k => k = gx) _).set _ _ rfl) (fun k e => by subst e; exact hgx), a3, c3, ?_, ?_, ?_, ?_⟩⟩
    · rw [HL.out]; exact HX3.out.set hox _
    · have hnf : ∀ b o s, a3 = some ⟨b, o, s⟩ → ¬ b = gx := fun b o s e => by
        rcases HN3.out b o s e with h1 | ⟨o', s', h1⟩
        · have := HX2.out.lt (by omega); omega
        · cases h1
      exact Row.keep hrow ((Keep.refl (fun k => k = gx) _).set _ _ rfl) hnf
    · have := HCAN3.out.le; rw [HL.out]; omega
    · intro b o s e
      rcases HN3.out b o s e with h1 | ⟨o', s', h1⟩
      · exact Nat.le_trans HT1.out.size (Nat.le_trans HK2.out.size h1)
      · cases h1
  · exact ⟨rfl, HT1.out, .inr ⟨_, by (show bindP _ _ = _); rw [HR.out]; rfl, rfl, .of HX1.out rfl⟩⟩
end Go.Proofs.Ytlckgnemmffdkaa

/- A reader of bytes: an answer. -/
namespace Go.Proofs.Ytlckgnemmffdkaa
open Go.ChangeShapes Go.WideShapes Go.ChangeAt Go.RowKit
set_option maxRecDepth 100000

/-- Numbers put into cells that follow one another. -/
def putI (cs : List Value) (o : Nat) (xs : List Int) : List Value := cs.take o ++ (xs.map (.int .i64) ++ cs.drop (o + xs.length))
theorem putI_nil (cs : List Value) (o : Nat) : putI cs o [] = cs := by unfold putI; simp
theorem putI_length {cs : List Value} {o : Nat} {xs : List Int} (h : o + xs.length ≤ cs.length) : (putI cs o xs).length = cs.length := by unfold putI; simp; omega
theorem putI_snoc {cs : List Value} {o : Nat} {xs : List Int} (h : o + xs.length < cs.length) (v : Int) : (putI cs o xs).set (o + xs.length) (.int .i64 v) = putI cs o (xs ++ [v]) := by
  have hl : (cs.take o).length = o := by rw [List.length_take]; omega
  unfold putI
  rw [List.set_append, if_neg (by rw [hl]; omega), hl, Nat.add_sub_cancel_left, List.set_append, if_neg (by simp), List.length_map, Nat.sub_self, List.drop_eq_getElem_cons h, List.set_cons_zero]
  simp [Nat.add_assoc]
theorem times_snoc {α : Type} {one : List UInt8 → Nat → Got α} {l : List UInt8} : ∀ {k p q q' : Nat} {xs : List α} {v : α}, timesP one k l p = .ok (xs, q) → one l q = .ok (v, q') → timesP one (k + 1) l p = .ok (xs ++ [v], q')
  | 0, p, q, q', xs, v, h, h2 => by
    simp only [timesP, Except.ok.injEq, Prod.mk.injEq] at h
    obtain ⟨rfl, rfl⟩ := h
    simp only [timesP, h2, bindP, List.nil_append]
  | k + 1, p, q, q', xs, v, h, h2 => by
    simp only [timesP] at h
    cases ho : one l p with
    | error e => rw [ho] at h; cases h
    | ok y =>
      obtain ⟨x, m⟩ := y
      rw [ho] at h
      simp only [bindP] at h
      cases ht : timesP one k l m with
      | error e => rw [ht] at h; cases h
      | ok z =>
        obtain ⟨ys, m2⟩ := z
        rw [ht] at h
        simp only [Except.ok.injEq, Prod.mk.injEq] at h
        obtain ⟨rfl, rfl⟩ := h
        have := times_snoc ht h2
        rw [timesP, ho]
        simp only [bindP]
        rw [this]
        simp
theorem times_fail {α : Type} {one : List UInt8 → Nat → Got α} {l : List UInt8} : ∀ {k m p q f : Nat} {xs : List α}, timesP one k l p = .ok (xs, q) → one l q = .error f → k < m → timesP one m l p = .error f
  | 0, 0, _, _, _, _, _, _, hm => absurd hm (by omega)
  | 0, m + 1, p, q, f, xs, h, h2, _ => by
    simp only [timesP, Except.ok.injEq, Prod.mk.injEq] at h
    obtain ⟨rfl, rfl⟩ := h
    simp only [timesP, h2, bindP]
  | k + 1, 0, _, _, _, _, _, _, hm => absurd hm (by omega)
  | k + 1, m + 1, p, q, f, xs, h, h2, hm => by
    simp only [timesP] at h
    cases ho : one l p with
    | error e => rw [ho] at h; cases h
    | ok y =>
      obtain ⟨x, m1⟩ := y
      rw [ho] at h
      simp only [bindP] at h
      cases ht : timesP one k l m1 with
      | error e => rw [ht] at h; cases h
      | ok z =>
        obtain ⟨ys, m2⟩ := z
        rw [ht] at h
        simp only [Except.ok.injEq, Prod.mk.injEq] at h
        obtain ⟨rfl, rfl⟩ := h
        have := times_fail (m := m) ht h2 (by omega)
        rw [timesP, ho]
        simp only [bindP]
        rw [this]
theorem bindP_assoc {α β γ : Type} (x : Got α) (f : α → Nat → Got β) (g : β → Nat → Got γ) : bindP (bindP x f) g = bindP x (fun a q => bindP (f a q) g) := by cases x <;> rfl
theorem bindP_ok {α β : Type} (a : α) (q : Nat) (f : α → Nat → Got β) : bindP (.ok (a, q)) f = f a q := rfl
theorem wAnsP_eq (l : List UInt8) (p : Nat) : wAnsP l p = bindP (numP l p) fun e q => bindP (timesP numP 4 l q) fun xs q => .ok (⟨e, xs.getD 0 0, xs.getD 1 0, xs.getD 2 0, xs.getD 3 0⟩, q) := by
  unfold wAnsP
  simp only [timesP, bindP_assoc, bindP_ok, List.getD_cons_zero, List.getD_cons_succ]
theorem Box.sets {g : Nat} : ∀ (vs : List Value) (i : Nat) (w : World) (cs : List Value), Box w g cs → i + vs.length ≤ cs.length → Box (w.setCells g i vs) g (cs.take i ++ (vs ++ cs.drop (i + vs.length)))
  | [], i, w, cs, h, _ => by rw [World.setCells]; simpa using h
  | v :: vs, i, w, cs, h, hl => by
    rw [List.length_cons] at hl
    have h2 := Box.sets vs (i + 1) _ _ (h.set (i := i) (by omega) v) (by rw [List.length_set]; omega)
    rw [World.setCells]
    have e : (cs.set i v).take (i + 1) ++ (vs ++ (cs.set i v).drop (i + 1 + vs.length)) = cs.take i ++ (v :: vs ++ cs.drop (i + (v :: vs).length)) := by
      rw [List.take_set, List.drop_set_of_lt (by omega), List.length_cons, List.take_succ_eq_append_getElem (by omega), List.set_append, if_neg (by rw [List.length_take]; omega)]
      simp [List.length_take, Nat.min_eq_left (show i ≤ cs.length by omega), Nat.add_assoc, Nat.add_comm 1]
    rw [e] at h2; exact h2
theorem Box.whole {g : Nat} {w : World} {cs vs : List Value} (h : Box w g cs) (hl : vs.length = cs.length) : Box (w.setCells g 0 vs) g vs := by
  have := Box.sets vs 0 w cs h (by omega)
  simpa [hl] using this
theorem Keep.sets {S : Nat → Prop} {g : Nat} (hg : S g) : ∀ (vs : List Value) (i : Nat) {w w' : World}, Keep S w w' → Keep S w (w'.setCells g i vs)
  | [], _, _, _, h => h
  | v :: vs, i, _, _, h => Keep.sets hg vs (i + 1) (h.set ⟨g, i, none⟩ v hg)
abbrev ansL (x : WAns) : List Int := [x.e, x.rate, x.burst, x.lease, x.size]
abbrev nums (xs : List Int) : Nat → Int := fun k => xs.getD k 0
set_option maxHeartbeats 2000000 in
theorem answer_t (g c p gx ox : Nat) (a : Option Addr) (bs : List UInt8) (cs : List Value) (e0 : Int) (w : World) (h : Cr w g a c bs p) (hl : bs.length ≤ 2000000) (hx : Box w gx cs) (hgx : Off g (rowA a bs) gx) (hox : ox + 5 ≤ cs.length) (hv : cs[ox]? = some (.int .i64 e0)) :
    Calls Try.prog 59 #[.pointer (some ⟨g, 0, none⟩), .pointer (some ⟨gx, ox, none⟩)] w (RetT w g gx cs.length a c bs (wAnsP bs p) (fun v w' => Box w' gx (putI cs ox (ansL v)))) := by
  have x0 := hx.cell hv
  have hgl := hx.lt (by omega)
  obtain ⟨W, hW⟩ : ∃ W, W = w.alloc (.cells #[.int .i64 e0] 3) := ⟨_, rfl⟩
  have hB : Below w.heap.size w W := by rw [hW]; exact (Below.refl _ _).alloc (Nat.le_refl _) _
  have hT : Box W w.heap.size [.int .i64 e0] := by rw [hW]; exact Box.of_alloc (Below.refl _ _)
  have HS : Hid (Calls Try.prog 79 #[.pointer (some ⟨g, 0, none⟩), .pointer (some ⟨w.heap.size, 0, none⟩)] W (RetPut (.int .i64) W g w.heap.size 0 a c bs [.int .i64 e0] (numP bs p))) := number_t g c p w.heap.size 0 a bs _ W (h.below hB) hl hT (h.new (Nat.le_refl _)) (by simp)
  have HX := Lib.hid (hx.next (by omega) hB)
  have HB := Lib.hid hB
  have HE := Lib.hid (hx.lt (by omega))
  clear h hx hB hT hv
  rw [hW] at HS
  have HW := Lib.hid hW
  clear hW
  go_enter Try.func59, Try.ntmps59
  go_upto_region 3 with (go_at_call 79; ((with_reducible refine HS.out.mono ?_); rw [← HW.out]; rintro en w1 ⟨ht, ⟨v, q, hr, rfl, hc, hb⟩ | ⟨f, hr, rfl, hb⟩⟩ <;> have HT1 := Lib.hid ht <;> have HR := Lib.hid hr <;> have HX1 := Lib.hid (ht.off HX.out (by omega) hgx.ne (by have := HE.out; omega)) <;> clear ht hr; all_goals (first | (have y0 := hb.cell (j := 0) rfl; have x1 := HX1.out.cell (j := ox) (List.getElem?_eq_getElem (by omega)); have z1 := HX1.out.froz (j := ox) (by omega); have HC1 := Lib.hid hc; clear hc hb) | skip)))
  · have HC2 := Lib.hid (HC1.out.keep ((Keep.refl (fun k => k = gx) _).set ⟨gx, ox, none⟩ (.int .i64 v) rfl) (fun k e => by subst e; exact hgx))
    have HX2 := Lib.hid (show Box _ gx (putI cs ox [v]) by have h1 := HX1.out.set (i := ox) (by omega) (.int .i64 v); have h2 := putI_snoc (cs := cs) (o := ox) (xs := []) (by simp; omega) v; rw [putI_nil, List.length_nil, Nat.add_zero, List.nil_append] at h2; rw [h2] at h1; exact h1)
    have HT2 := Lib.hid ((HT1.out.inner (Turn.below (g := g) (gx := gx) HB.out) (Nat.le_refl _)).set ⟨gx, ox, none⟩ (.int .i64 v) (.inr (.inl rfl)))
    clear y0 x1 z1 HC1 HX1 HT1 x0
    generalize w1.setCell ⟨gx, ox, none⟩ (.int .i64 v) = w2 at HC2 HX2 HT2 ⊢
    go_quiet (fail)
    have HC3 := Lib.hid (HC2.out.below (below_drewN (Below.refl w2.heap.size w2) nq))
    have HX3 := Lib.hid (HX2.out.next (by rw [putI_length (by simp; omega)]; omega) (below_drewN (Below.refl w2.heap.size w2) nq))
    have HT3 := Lib.hid (Turn.next HT2.out (Turn.below (below_drewN (Below.refl w2.heap.size w2) nq)))
    clear HC2 HX2 HT2
    generalize w2.drewN nq = w3 at HC3 HX3 HT3 ⊢
    go_wp2
    go_loopw [6, 30] (fun _ i wr => ∃ (xs : List Int) (q1 : Nat), xs.length ≤ 4 ∧ i = .int .i64 xs.length ∧ Hid (Cr wr g a c bs q1) ∧ Hid (Turn g gx w wr) ∧ Hid (Box wr gx (putI cs ox (v :: xs))) ∧ Hid (timesP numP xs.length bs q = .ok (xs, q1))) (fun _ i _ => 4 - (intOf i).toNat)
    case atStart => exact ⟨[], q, by simp, rfl, HC3.out, HT3.out, HX3.out, rfl⟩
    case round =>
      obtain ⟨xs, q1, hk, rfl, hcr, htr, hbx, hpr⟩ := hrel
      by_cases hlt : xs.length < 4
      · have hnw := number_t g c q1 gx (ox + (xs.length + 1)) a bs _ wr hcr.out hl hbx.out hgx (by rw [putI_length (by simp; omega)]; omega)
        have HNW := Lib.hid hnw
        clear hnw
        have hidx : ∀ w, (Instr.index 156 (.agg #[.pointer (some ⟨gx, ox + 1, none⟩), .pointer (some ⟨gx, ox + 2, none⟩), .pointer (some ⟨gx, ox + 3, none⟩), .pointer (some ⟨gx, ox + 4, none⟩)]) (.int .i64 xs.length)).run Try.prog w = .ok (.pointer (some ⟨gx, ox + (xs.length + 1), none⟩)) w := fun _ => by
          clear hcr htr hbx hpr HNW
          generalize xs.length = k at hlt
          rcases (show k = 0 ∨ k = 1 ∨ k = 2 ∨ k = 3 by omega) with rfl | rfl | rfl | rfl <;> kernel_rfl
        go_wp2_with (go_at_call 79; ((with_reducible refine HNW.out.mono ?_); rintro en w4 ⟨ht, ⟨v4, q4, hr, rfl, hc, hb⟩ | ⟨f, hr, rfl, hb⟩⟩ <;> have HT4 := Lib.hid (Turn.next htr.out ht) <;> have HR4 := Lib.hid hr <;> have HB4 := Lib.hid hb <;> clear ht hr hb; all_goals (first | (have HC4 := Lib.hid hc; clear hc) | skip)))
        · have hb := HB4.out
          rw [show ox + (xs.length + 1) = ox + (v :: xs).length by simp, putI_snoc (by simp; omega)] at hb
          exact ⟨⟨xs ++ [v4], q4, by simp; omega, by simp, HC4.out, HT4.out, hb, by (show _ = _); rw [List.length_append]; exact times_snoc hpr.out HR4.out⟩, by simp [intOf]; omega⟩
        · refine ⟨rfl, HT4.out, .inr ⟨_, ?_, rfl, ?_⟩⟩
          · rw [wAnsP_eq, HR.out, bindP_ok, times_fail hpr.out HR4.out hlt]; rfl
          · have h1 := HB4.out
            rw [putI_length (by simp; omega)] at h1; exact h1
      · have h4 : xs.length = 4 := by omega
        have HPR := hpr
        obtain ⟨y0, y1, y2, y3, rfl⟩ : ∃ y0 y1 y2 y3, xs = [y0, y1, y2, y3] := by
          match xs, h4 with
          | [y0, y1, y2, y3], _ => exact ⟨y0, y1, y2, y3, rfl⟩
        clear h4 hlt hk hpr
        go_wp2
        go_end0
        refine ⟨htr.out, .inl ⟨⟨v, y0, y1, y2, y3⟩, q1, ?_, rfl, hcr.out, hbx.out⟩⟩
        have := HPR.out
        rw [wAnsP_eq, HR.out, bindP_ok]
        rw [show [y0, y1, y2, y3].length = 4 from rfl] at this
        rw [this]; rfl
  · refine ⟨rfl, HT1.out.inner (Turn.below (g := g) (gx := gx) HB.out) (Nat.le_refl _), .inr ⟨_, ?_, rfl, .of HX1.out rfl⟩⟩
    rw [wAnsP_eq, HR.out]; rfl
end Go.Proofs.Ytlckgnemmffdkaa

/- An entry out of bytes; an entry behind a writer's bytes. -/
namespace Go.Proofs.Ytlckgnemmffdkaa
open Go.ChangeShapes Go.WideShapes Go.ChangeAt Go.RowKit
set_option maxRecDepth 100000

theorem step_ok {α β : Type} {X : Got β} {y : Got α} {f : α → Nat → Got β} {v : α} {q : Nat} (h : X = bindP y f) (hy : y = .ok (v, q)) : X = f v q := by rw [h, hy]; rfl
theorem step_bad {α β : Type} {X : Got β} {y : Got α} {f : α → Nat → Got β} {e : Nat} (h : X = bindP y f) (hy : y = .error e) : X = .error e := by rw [h, hy]; rfl
/-- A row of new memory. -/
structure FarRow (W w : World) (a : Option Addr) (xs : List Value) : Prop where
  row : Row w a xs
  far : xs ≠ [] → ∀ b o s, a = some ⟨b, o, s⟩ → W.heap.size ≤ b
theorem FarRow.block {W w w' : World} {a : Option Addr} {xs : List Value} (h : FarRow W w a xs) (hk : ∀ k, W.heap.size ≤ k → k < w.heap.size → (∀ o s, a = some ⟨k, o, s⟩ → w'.heap[k]? = w.heap[k]?)) : FarRow W w' a xs := ⟨by
  by_cases h0 : xs = []
  · exact .inl h0
  · rcases h.row with h1 | ⟨b, o, rfl, hc⟩
    · exact absurd h1 h0
    · have hlt := Row.lt (.inr ⟨b, o, rfl, hc⟩) h0
      exact .inr ⟨b, o, rfl, fun i hi => by rw [World.cell?_of_block (w := w) (hk b (h.far h0 b o none rfl) hlt o none rfl)]; exact hc i hi⟩, h.far⟩
theorem FarRow.turn {W w w' : World} {g gx : Nat} {a : Option Addr} {xs : List Value} (h : FarRow W w a xs) (ht : Turn g gx w w') (hg : g < W.heap.size) (hx : gx < W.heap.size) : FarRow W w' a xs :=
  h.block fun k h1 h2 _ _ _ => ht.block k h2 (by omega)
theorem FarRow.below {W w w' : World} {a : Option Addr} {xs : List Value} (h : FarRow W w a xs) (hb : Below w.heap.size w w') : FarRow W w' a xs := h.block fun k _ h2 _ _ _ => hb.block k h2
theorem FarRow.mono {W W' w : World} {a : Option Addr} {xs : List Value} (h : FarRow W w a xs) (hw : W'.heap.size ≤ W.heap.size) : FarRow W' w a xs := ⟨h.row, fun h0 b o s e => Nat.le_trans hw (h.far h0 b o s e)⟩
theorem FarRow.keep {S : Nat → Prop} {W w w' : World} {a : Option Addr} {xs : List Value} (h : FarRow W w a xs) (hk : Keep S w w') (hs : ∀ k, S k → k < W.heap.size) : FarRow W w' a xs := h.block fun k h1 h2 _ _ _ => hk.block k h2 (fun e => by have := hs k e; omega)
theorem FarRow.nil (W w : World) (a : Option Addr) : FarRow W w a [] := ⟨.inl rfl, fun h => absurd rfl h⟩
theorem inI_of {n : Int} (h : -9223372036854775808 ≤ n ∧ n ≤ 9223372036854775807) : InI n := by unfold InI; omega
theorem kindIn_of {n : Int} (h : -128 ≤ n ∧ n ≤ 127) : KindIn n := by unfold KindIn; omega
theorem short_of {n c : Nat} (h : n ≤ c) (h2 : c ≤ maxLen) : Short n := by
  have := lt_maxLen (Nat.le_trans h h2)
  unfold Short; omega
abbrev PEnt := Option Addr × Nat
abbrev cellsEnt (v : WEnt) (p : PEnt) : List Value := [.int .i64 v.term, .int .i8 v.kind, .int .i64 v.stamp, B v.set, .slice p.1 v.data.length p.2]
def valEnt (v : WEnt) (p : PEnt) : Value := .agg #[.int .i64 v.term, .int .i8 v.kind, .int .i64 v.stamp, B v.set, .slice p.1 v.data.length p.2]
/-- An entry's bytes lie in new memory. -/
structure MemEnt (W w : World) (v : WEnt) (p : PEnt) : Prop where
  row : FarRow W w p.1 (v.data.map B)
  le : v.data.length ≤ p.2
theorem MemEnt.keep {S : Nat → Prop} {W w w' : World} {v : WEnt} {p : PEnt} (h : MemEnt W w v p) (hk : Keep S w w') (hs : ∀ k, S k → k < W.heap.size) : MemEnt W w' v p := ⟨h.row.keep hk hs, h.le⟩
theorem MemEnt.mono {W W' w : World} {v : WEnt} {p : PEnt} (h : MemEnt W w v p) (hw : W'.heap.size ≤ W.heap.size) : MemEnt W' w v p := ⟨h.row.mono hw, h.le⟩
theorem MemEnt.below {W w w' : World} {v : WEnt} {p : PEnt} (h : MemEnt W w v p) (hb : Below w.heap.size w w') : MemEnt W w' v p := ⟨h.row.below hb, h.le⟩
theorem MemEnt.turnE {W w w' : World} {v : WEnt} {p : PEnt} {g : Nat} (h : MemEnt W w v p) (ht : Turn g g w w') (hg : g < W.heap.size) : MemEnt W w' v p := ⟨h.row.turn ht hg hg, h.le⟩
def zEnt : WEnt := ⟨0, 0, 0, 0, []⟩
def pzEnt : PEnt := (none, 0)
theorem memzEnt (W w : World) : MemEnt W w zEnt pzEnt := ⟨FarRow.nil _ _ _, Nat.le_refl _⟩
def IsEnt (w0 : World) (gx : Nat) (v : WEnt) (w' : World) : Prop := ∃ p : PEnt, Box w' gx [.int .i64 v.term, .int .i8 v.kind, .int .i64 v.stamp, B v.set, .slice p.1 v.data.length p.2] ∧ MemEnt w0 w' v p
set_option maxHeartbeats 2000000 in
theorem entry_t (g c p gx : Nat) (a : Option Addr) (bs : List UInt8) (w : World) (h : Cr w g a c bs p) (hl : bs.length ≤ 2000000) (hx : Box w gx [.int .i64 0, .int .i8 0, .int .i64 0, .int .u8 0, .slice none 0 0]) (hgx : Off g (rowA a bs) gx) :
    Calls Try.prog 45 #[.pointer (some ⟨g, 0, none⟩), .pointer (some ⟨gx, 0, none⟩)] w (RetT w g gx 5 a c bs (wEntP bs p) (IsEnt w gx)) := by
  have HP := Lib.hid (show wEntP bs p = bindP (numP bs p) fun v0 p => bindP (kindP bs p) fun v1 p => bindP (numP bs p) fun v2 p => bindP (smallP bs p) fun v3 p => bindP (bytesP bs p) fun v4 p => .ok (⟨v0, v1, v2, v3, v4⟩, p) from rfl)
  have HT := Lib.hid (Turn.refl g gx w)
  have HC := Lib.hid h
  have HX := Lib.hid hx
  have HGL := Lib.hid (And.intro (h.box.lt (by simp)) (hx.lt (by simp)))
  clear h hx
  go_enter Try.func45, Try.ntmps45
  go_wp2_with (first
    | (go_at_call 79; ((with_reducible refine (number_t g c _ gx _ a bs _ _ HC.out hl HX.out hgx (by simp)).mono ?_); rintro e w1 ⟨ht, ⟨v, q, hr, rfl, hc, hb⟩ | ⟨f, hr, rfl, hb⟩⟩ <;> replace HT := Lib.hid (Turn.next HT.out ht) <;> first | (replace HP := Lib.hid (step_ok HP.out hr); replace HC := Lib.hid hc; replace HX := Lib.hid hb; clear ht hr hc hb) | (have HB := Lib.hid hb; have HPE := Lib.hid (step_bad HP.out hr); clear ht hr hb)))
    | (go_at_call 81; ((with_reducible refine (small_t g c _ gx _ a bs _ _ HC.out hl HX.out hgx (by simp)).mono ?_); rintro e w1 ⟨ht, ⟨v, q, hr, rfl, hc, hb⟩ | ⟨f, hr, rfl, hb⟩⟩ <;> replace HT := Lib.hid (Turn.next HT.out ht) <;> first | (replace HP := Lib.hid (step_ok HP.out hr); replace HC := Lib.hid hc; replace HX := Lib.hid hb; clear ht hr hc hb) | (have HB := Lib.hid hb; have HPE := Lib.hid (step_bad HP.out hr); clear ht hr hb)))
    | (go_at_call 80; ((with_reducible refine (kind_t g c _ gx _ a bs _ 0 _ HC.out hl HX.out hgx (by simp) (by simp)).mono ?_); rintro e w1 ⟨ht, ⟨v, q, hr, rfl, hc, hb⟩ | ⟨f, hr, rfl, hb⟩⟩ <;> replace HT := Lib.hid (Turn.next HT.out ht) <;> first | (replace HP := Lib.hid (step_ok HP.out hr); replace HC := Lib.hid hc; replace HX := Lib.hid hb; clear ht hr hc hb) | (have HB := Lib.hid hb; have HPE := Lib.hid (step_bad HP.out hr); clear ht hr hb)))
    | (go_at_call 82; ((with_reducible refine (bytes_t g c _ gx _ a bs _ none 0 0 _ HC.out hl HX.out hgx (by simp) (by simp)).mono ?_); rintro e w1 ⟨ht, ⟨v, q, hr, rfl, hc, ad, k, hb, hd, hk, hf⟩ | ⟨f, hr, rfl, hb⟩⟩ <;> have hsz := HT.out.size <;> replace HT := Lib.hid (Turn.next HT.out ht) <;> first | (replace HP := Lib.hid (step_ok HP.out hr); replace HC := Lib.hid hc; replace HX := Lib.hid hb; have HD : Hid (FarRow w w1 ad (v.map B)) := Lib.hid ⟨hd, fun _ b o s e => Nat.le_trans hsz (hf b o s e)⟩; have HK := Lib.hid hk; clear ht hr hc hb hd hk hf hsz) | (have HB := Lib.hid hb; have HPE := Lib.hid (step_bad HP.out hr); clear ht hr hb))))
  all_goals first
    | (go_end0; exact ⟨HT.out, .inl ⟨_, _, HP.out, rfl, HC.out, (ad, k), HX.out, HD.out, HK.out⟩⟩)
    | exact ⟨rfl, HT.out, .inr ⟨_, HPE.out, rfl, HB.out⟩⟩
theorem LowRow.up {g g' : Nat} {w W : World} {a : Option Addr} {xs : List Value} (h : LowRow g w a xs) (hg : g ≤ g') (hb : Below w.heap.size w W) : LowRow g' W a xs := ⟨(h.below hb).row, fun h0 b o s e => by have := h.low h0 b o s e; omega⟩
/-- An entry's bytes lie ahead of the writer. -/
structure LowEnt (g : Nat) (w : World) (v : WEnt) (p : PEnt) : Prop where
  row : LowRow g w p.1 (v.data.map B)
theorem LowEnt.up {g g' : Nat} {w W : World} {v : WEnt} {p : PEnt} (h : LowEnt g w v p) (hg : g ≤ g') (hb : Below w.heap.size w W) : LowEnt g' W v p := ⟨h.row.up hg hb⟩
structure OkEnt (v : WEnt) : Prop where
  kind : KindIn v.kind
  size : (encWEnt v).length ≤ 1000000
set_option maxHeartbeats 2000000 in
theorem entry_w (D g gx c : Nat) (a : Option Addr) (bs : List UInt8) (x : WEnt) (p : PEnt) (w : World) (h : Cw w D g a c bs) (hD : D ≤ w.heap.size) (hx : Box w gx [.int .i64 x.term, .int .i8 x.kind, .int .i64 x.stamp, B x.set, .slice p.1 x.data.length p.2]) (hp : LowEnt g w x p) (hok : OkEnt x) (hgx : gx ≠ g) (hxa : ∀ o s, a ≠ some ⟨gx, o, s⟩) (hn : bs.length ≤ 3000000) :
    Calls Try.prog 45 #[.pointer (some ⟨g, 0, none⟩), .pointer (some ⟨gx, 0, none⟩)] w (RetCw w D g a (bs ++ encWEnt x)) := by
  have hk := hok.kind
  have hn2 : x.data.length ≤ 1000000 := by have := hok.size; unfold encWEnt at this; simp only [List.length_append] at this; omega
  have hr := hp.row
  obtain ⟨ad, k⟩ := p
  simp only at hx hr
  clear hok hp
  have HG := Lib.hid (Grew.refl g a w)
  have HC := Lib.hid h
  have HX := Lib.hid hx
  have HR := Lib.hid hr
  have HKI := Lib.hid (show -128 ≤ x.kind ∧ x.kind < 128 from hk)
  have HO := Lib.hid (And.intro hgx (And.intro (hx.lt (by simp)) hxa))
  clear h hx hr hk hgx hxa
  obtain ⟨term, kind, stamp, set', data⟩ := x
  simp only at HX HR HKI hn2
  go_enter Try.func45, Try.ntmps45
  go_wp2_with (first
    | (go_at_call 79; ((with_reducible refine (number_w D g gx 0 _ _ _ term _ HC.out (Nat.le_trans hD HG.out.size) (HX.out.cell (j := 0) (by simp)) HO.out.1 (HG.out.off HO.out.2.1 HO.out.2.2) (by first | omega | (simp only [List.length_append, be8_length, List.length_cons, List.length_nil]; omega))).mono ?_); rintro en w1 ⟨a1, c1, rfl, hcw1, hgr1⟩; replace HX := Lib.hid (HX.out.grew (by simp) hgr1 HO.out.1 (HG.out.off HO.out.2.1 HO.out.2.2)); replace HR := Lib.hid (HR.out.grew HC.out hgr1); replace HG := Lib.hid (HG.out.trans hgr1); replace HC := Lib.hid hcw1; clear hcw1 hgr1))
    | (go_at_call 79; ((with_reducible refine (number_w D g gx 2 _ _ _ stamp _ HC.out (Nat.le_trans hD HG.out.size) (HX.out.cell (j := 2) (by simp)) HO.out.1 (HG.out.off HO.out.2.1 HO.out.2.2) (by first | omega | (simp only [List.length_append, be8_length, List.length_cons, List.length_nil]; omega))).mono ?_); rintro en w1 ⟨a1, c1, rfl, hcw1, hgr1⟩; replace HX := Lib.hid (HX.out.grew (by simp) hgr1 HO.out.1 (HG.out.off HO.out.2.1 HO.out.2.2)); replace HR := Lib.hid (HR.out.grew HC.out hgr1); replace HG := Lib.hid (HG.out.trans hgr1); replace HC := Lib.hid hcw1; clear hcw1 hgr1))
    | (go_at_call 81; ((with_reducible refine (small_w D g gx 3 _ _ _ set' _ HC.out (Nat.le_trans hD HG.out.size) (HX.out.cell (j := 3) (by simp)) HO.out.1 (HG.out.off HO.out.2.1 HO.out.2.2) (by first | omega | (simp only [List.length_append, be8_length, List.length_cons, List.length_nil]; omega))).mono ?_); rintro en w1 ⟨a1, c1, rfl, hcw1, hgr1⟩; replace HX := Lib.hid (HX.out.grew (by simp) hgr1 HO.out.1 (HG.out.off HO.out.2.1 HO.out.2.2)); replace HR := Lib.hid (HR.out.grew HC.out hgr1); replace HG := Lib.hid (HG.out.trans hgr1); replace HC := Lib.hid hcw1; clear hcw1 hgr1))
    | (go_at_call 80; ((with_reducible refine (kind_w D g gx 1 _ _ _ kind _ HC.out (Nat.le_trans hD HG.out.size) (HX.out.cell (j := 1) (by simp)) (HX.out.froz (j := 1) (by simp)) HKI.out HO.out.1 (HG.out.off HO.out.2.1 HO.out.2.2) (by first | omega | (simp only [List.length_append, be8_length, List.length_cons, List.length_nil]; omega))).mono ?_); rintro en w1 ⟨a1, c1, rfl, hcw1, hgr1⟩; replace HX := Lib.hid (HX.out.grew (by simp) hgr1 HO.out.1 (HG.out.off HO.out.2.1 HO.out.2.2)); replace HR := Lib.hid (HR.out.grew HC.out hgr1); replace HG := Lib.hid (HG.out.trans hgr1); replace HC := Lib.hid hcw1; clear hcw1 hgr1))
    | (go_at_call 82; ((with_reducible refine (bytes_w D g gx 4 _ data.length k _ ad _ data _ HC.out (Nat.le_trans hD HG.out.size) (HX.out.cell (j := 4) (by simp)) rfl HR.out HO.out.1 (HG.out.off HO.out.2.1 HO.out.2.2) (by first | omega | (simp only [List.length_append, be8_length, List.length_cons, List.length_nil]; omega)) (by omega)).mono ?_); rintro en w1 ⟨a1, c1, rfl, hcw1, hgr1⟩; replace HG := Lib.hid (HG.out.trans hgr1); replace HC := Lib.hid hcw1; clear hcw1 hgr1)))
  go_end0
  have hc := HC.out
  simp only [List.append_assoc] at hc
  exact ⟨a1, c1, rfl, hc, HG.out⟩
end Go.Proofs.Ytlckgnemmffdkaa

/- A list that is read: what stands behind each thing. -/
namespace Go.Proofs.Ytlckgnemmffdkaa
open Go.ChangeShapes Go.WideShapes Go.ChangeAt Go.RowKit
set_option maxRecDepth 100000

theorem List.set_getElem_self' {α : Type} {l : List α} {i : Nat} {v : α} (h : l[i]? = some v) : l.set i v = l := by
  obtain ⟨h1, h2⟩ := List.getElem?_eq_some_iff.1 h
  subst h2
  exact List.set_getElem_self h1
/-- A list's things so far, its variable, the reader. -/
structure Ls (w w' : World) (g gx ox : Nat) (a : Option Addr) (c : Nat) (bs : List UInt8) (q : Nat) (cs : List Value) (T : TypeId) (size : Nat) (a1 : Option Addr) (n c1 : Nat) (xs : List Value) : Prop where
  cr : Cr w' g a c bs q
  turn : Turn g gx w w'
  box : Box w' gx (cs.set ox (.slice a1 n c1))
  can : Can w' w.heap.size T size a1 n c1 xs
  far : ∀ b o s, a1 = some ⟨b, o, s⟩ → w.heap.size ≤ b ∧ b < w'.heap.size
  gl : g < w.heap.size
  xl : gx < w.heap.size
  off : Off g (rowA a bs) gx
  ox : ox < cs.length
theorem Ls.one {w wr w2 : World} {o : Obj} {g gx ox c q q' T size n c1 : Nat} {a a1 : Option Addr} {bs : List UInt8} {cs xs : List Value} (h : Ls w wr g gx ox a c bs q cs T size a1 n c1 xs) (ht : Turn g wr.heap.size (wr.alloc o) w2) (hc : Cr w2 g a c bs q') : Ls w w2 g gx ox a c bs q' cs T size a1 n c1 xs := by
  have hs := h.turn.size
  have hg := h.gl
  have hx := h.xl
  have hsz : (wr.alloc o).heap.size = wr.heap.size + 1 := by simp
  have hts := ht.size
  have hm : Mid w.heap.size wr.heap.size wr w2 := ⟨by omega, fun k h1 h2 => by
    rw [ht.block k (by omega) (by omega)]
    exact heap_alloc_old _ _ h2⟩
  refine ⟨hc, ?_, ?_, can_mid h.can hm (fun b o s e => .inl (h.far b o s e).1) (Nat.le_refl _) (Nat.le_refl _), fun b o s e => ⟨(h.far b o s e).1, by have := (h.far b o s e).2; omega⟩, hg, hx, h.off, h.ox⟩
  · exact Keep.trans (h.turn.next (Turn.below (mid_alloc' (Below.refl _ _)))) (ht.mono fun k _ e => by rcases e with e | e | e; exact .inl e; exact .inr (.inr (by omega)); exact .inr (.inr (by omega)))
  · have h1 : Box (wr.alloc o) gx (cs.set ox (.slice a1 n c1)) := h.box.next (by rw [List.length_set]; have := h.ox; omega) (mid_alloc' (Below.refl _ _))
    exact h1.keep (by rw [List.length_set]; have := h.ox; omega) ht (by have := h.off.ne; omega)
theorem Ls.push {w w2 W0 w3 : World} {g gx ox c q T size n c1 c2 : Nat} {a a1 a2 : Option Addr} {bs : List UInt8} {cs xs ns : List Value} (h : Ls w w2 g gx ox a c bs q cs T size a1 n c1 xs) (hb : Below w2.heap.size w2 W0)
    (hcan : Can w3 w.heap.size T size a2 (n + 1) c2 (xs ++ ns)) (hg : W0.grownBy w3 (Value.slice a1 n c1).ownBlock) (hown : ∀ b o s, a2 = some ⟨b, o, s⟩ → w.heap.size ≤ b) (hlt : ∀ b o s, a2 = some ⟨b, o, s⟩ → b < w3.heap.size) :
    Ls w (w3.setCell ⟨gx, ox, none⟩ (.slice a2 (n + 1) c2)) g gx ox a c bs q cs T size a2 (n + 1) c2 (xs ++ ns) ∧ Box w3 gx (cs.set ox (.slice a1 n c1)) ∧ (∀ k, k < w2.heap.size → (∀ o s, a1 ≠ some ⟨k, o, s⟩) → w3.heap[k]? = w2.heap[k]?) := by
  have hs := h.turn.size
  have hgl := h.gl
  have hx := h.xl
  have ow : ∀ k, (∀ o s, a1 ≠ some ⟨k, o, s⟩) → some k ≠ (Value.slice a1 n c1).ownBlock := fun k hk e => by
    cases a1 with
    | none => simp [Value.ownBlock] at e
    | some ad =>
      obtain ⟨y, u, v⟩ := ad
      simp [Value.ownBlock] at e
      subst e
      exact hk u v rfl
  have hkeep : ∀ k, k < w2.heap.size → (∀ o s, a1 ≠ some ⟨k, o, s⟩) → w3.heap[k]? = w2.heap[k]? := fun k hk hne => by
    rw [hg.block k (Nat.lt_of_lt_of_le hk hb.size) (ow k hne), hb.block k hk]
  have hks : Keep (fun k => w.heap.size ≤ k) w2 w3 := ⟨hg.os.trans hb.os, hg.tape.trans hb.tape, hg.output.trans hb.output, Nat.le_trans hb.size hg.size, fun k hk hn => hkeep k hk (fun o s e => hn (h.far k o s e).1)⟩
  have hlen : 0 < (cs.set ox (.slice a1 n c1)).length := by rw [List.length_set]; have := h.ox; omega
  have hbx : Box w3 gx (cs.set ox (.slice a1 n c1)) := h.box.keep hlen hks (by omega)
  have hoffk : ∀ k, w.heap.size ≤ k → Off g (rowA a bs) k := fun k hk => ⟨by omega, fun o s e => by have := h.cr.low k o s e; omega⟩
  have hset := hbx.set (i := ox) (by rw [List.length_set]; exact h.ox) (.slice a2 (n + 1) c2)
  rw [List.set_set] at hset
  refine ⟨⟨(h.cr.keep hks hoffk).keep ((Keep.refl (fun k => k = gx) _).set _ _ rfl) (fun k e => by subst e; exact h.off), ?_, hset, ?_, fun b o s e => ⟨hown b o s e, by have := hlt b o s e; simpa using this⟩, hgl, hx, h.off, h.ox⟩, hbx, hkeep⟩
  · exact (Keep.trans h.turn (hks.mono fun k _ e => .inr (.inr e))).set _ _ (.inr (.inl rfl))
  · exact can_mid hcan ((Mid.refl w.heap.size w3.heap.size w3).setCell ⟨gx, ox, none⟩ _ (.inl hx)) (fun b o s e => .inl (hown b o s e)) (Nat.le_refl _) (Nat.le_refl _)
end Go.Proofs.Ytlckgnemmffdkaa

/- Entries in a list that grows: each one's bytes stand apart from the list's own row. -/
namespace Go.Proofs.Ytlckgnemmffdkaa
open Go.ChangeShapes Go.WideShapes Go.ChangeAt Go.RowKit
set_option maxRecDepth 100000

abbrev EntP := WEnt × PEnt
abbrev cellsEn (x : WEnt × PEnt) : List Value := cellsEnt x.1 x.2
structure EntIn (W w : World) (a1 : Option Addr) (y : WEnt × PEnt) : Prop where
  mem : MemEnt W w y.1 y.2
  apart : y.1.data ≠ [] → ∀ b o s, y.2.1 = some ⟨b, o, s⟩ → ∀ o' s', a1 ≠ some ⟨b, o', s'⟩
theorem EntIn.blocks {W w w' : World} {a1 a2 : Option Addr} {y : WEnt × PEnt} (h : EntIn W w a1 y) (hk : ∀ k, W.heap.size ≤ k → k < w.heap.size → (∀ o s, a1 ≠ some ⟨k, o, s⟩) → w'.heap[k]? = w.heap[k]?) (ha : ∀ b o s, a2 = some ⟨b, o, s⟩ → w.heap.size ≤ b ∨ ∃ o' s', a1 = some ⟨b, o', s'⟩) : EntIn W w' a2 y := by
  by_cases h0 : y.1.data = []
  · exact ⟨⟨by rw [h0]; exact FarRow.nil _ _ _, h.mem.le⟩, fun hn => absurd h0 hn⟩
  · have hne : y.1.data.map B ≠ [] := by simpa using h0
    refine ⟨⟨h.mem.row.block fun k h1 h2 o s e => hk k h1 h2 (h.apart h0 k o s e), h.mem.le⟩, fun _ b o s e o' s' e2 => ?_⟩
    · have hlt : b < w.heap.size := by
        rcases h.mem.row.row with h1 | ⟨b1, o1, h1, hc⟩
        · exact absurd h1 hne
        · rw [e] at h1
          simp only [Option.some.injEq, Addr.mk.injEq] at h1
          obtain ⟨rfl, rfl, rfl⟩ := h1
          exact Row.lt (.inr ⟨b, o, rfl, hc⟩) hne
      rcases ha b o' s' e2 with h1 | ⟨o2, s2, h1⟩
      · omega
      · exact h.apart h0 b o s e o2 s2 h1
theorem EntIn.one {W wr w2 : World} {a1 : Option Addr} {y : WEnt × PEnt} {o : Obj} {g : Nat} (h : EntIn W wr a1 y) (ht : Turn g wr.heap.size (wr.alloc o) w2) (hg : g < W.heap.size) : EntIn W w2 a1 y :=
  h.blocks (fun k h1 h2 _ => by
    rw [ht.block k (by simp; omega) (by simp; omega)]
    exact heap_alloc_old _ _ h2) (fun b o s e => .inr ⟨o, s, e⟩)
theorem EntIn.new {W W1 w : World} {a1 : Option Addr} {v : WEnt} {p : PEnt} (h : MemEnt W1 w v p) (hw : W.heap.size ≤ W1.heap.size) (ha : ∀ b o s, a1 = some ⟨b, o, s⟩ → b < W1.heap.size) : EntIn W w a1 (v, p) :=
  ⟨h.mono hw, fun h0 b o s e o' s' e2 => by
    have h1 := h.row.far (by simpa using h0) b o s e
    have h2 := ha b o' s' e2
    omega⟩
theorem EntIn.push {W w4 w5 : World} {a1 a2 : Option Addr} {y : WEnt × PEnt} {gx ox m : Nat} (h : EntIn W w4 a1 y) (hk : ∀ k, k < w4.heap.size → (∀ o s, a1 ≠ some ⟨k, o, s⟩) → w5.heap[k]? = w4.heap[k]?) (hn : Near m a1 a2) (hm : w4.heap.size ≤ m) (hx : gx < W.heap.size) (v : Value) : EntIn W (w5.setCell ⟨gx, ox, none⟩ v) a2 y :=
  h.blocks (fun k h1 h2 h3 => by
    rw [((Keep.refl (fun k => k = gx) w5).set ⟨gx, ox, none⟩ v rfl).block k (by
      by_cases h4 : k < w5.heap.size
      · exact h4
      · have h5 := hk k h2 h3
        rw [Array.getElem?_eq_none (by omega), Array.getElem?_eq_getElem h2] at h5
        cases h5) (by omega)]
    exact hk k h2 h3) (fun b o s e => by
    rcases hn b o s e with h1 | ⟨o', s', h1⟩
    · exact .inl (by omega)
    · exact .inr ⟨o', s', h1⟩)
/-- Entries as a message holds them: a row, each one's bytes. -/
structure MemEs (W w : World) (a : Option Addr) (vs : List WEnt) (es : List (WEnt × PEnt)) : Prop where
  vals : es.map Prod.fst = vs
  row : FarRow W w a (es.flatMap cellsEn)
  each : ∀ y ∈ es, MemEnt W w y.1 y.2
end Go.Proofs.Ytlckgnemmffdkaa

/- Lists read: a list of Int. (printed by gen_wirlist.py) -/
namespace Go.Proofs.Ytlckgnemmffdkaa
open Go.ChangeShapes Go.WideShapes Go.ChangeAt Go.RowKit
set_option maxRecDepth 100000

abbrev cellsInt (x : Int) : List Value := [.int .i64 x]
theorem el_int : Elem Try.prog 38 3 1 8 where
  under := Try.underlying38
  info := by
    have h : (Try.prog.info? 3).map (fun i => (i.zero.map fun z => (z.cells.size, z.cells.all (·.oneCell')), i.size, i.bytes)) = some (some (1, true), 1, 8) := by kernel_rfl
    cases hi : Try.prog.info? 3 with
    | none => rw [hi] at h; cases h
    | some i =>
      rw [hi, Option.map_some] at h
      cases hz : i.zero with
      | none => rw [hz] at h; simp at h
      | some z =>
        rw [hz] at h
        simp at h
        exact ⟨i, z, rfl, hz, h.2.1, h.2.2, h.1.1⟩
  pos := by decide
  bpos := by decide
def IsListInt (w0 : World) (gx ox : Nat) (cs : List Value) (xs : List Int) (w' : World) : Prop := ∃ (a' : Option Addr) (c' : Nat), Box w' gx (cs.set ox (.slice a' xs.length c')) ∧ FarRow w0 w' a' (xs.flatMap cellsInt) ∧ xs.length ≤ c'
set_option maxHeartbeats 8000000 in
theorem listint_t (g c p gx ox : Nat) (a : Option Addr) (bs : List UInt8) (cs : List Value) (w : World) (h : Cr w g a c bs p) (hl : bs.length ≤ 2000000) (hx : Box w gx cs) (hgx : Off g (rowA a bs) gx) (hox : ox < cs.length) (hv : cs[ox]? = some (.slice none 0 0)) :
    Calls Try.prog 85 #[.pointer (some ⟨g, 0, none⟩), .pointer (some ⟨gx, ox, none⟩), .int .i64 8, .func (.func 79) #[.pointer (some ⟨g, 0, none⟩)] #[]] w (RetT w g gx cs.length a c bs (listP 8 numP bs p) (IsListInt w gx ox cs)) := by
  have x0 := hx.cell hv
  have hxl := hx.lt (by omega)
  have hgl := h.box.lt (by simp)
  have HCO : Hid (Calls Try.prog 100 #[.pointer (some ⟨g, 0, none⟩), .int .i64 0, .int .i64 8] w (RetCount w g a c bs (countP 8 bs p))) := count_t g c p 8 0 a bs w h hl (by omega) (by omega)
  have HX := Lib.hid hx
  have HE := Lib.hid (And.intro hxl hgl)
  have HV := Lib.hid hv
  clear h hx hv
  go_enter Try.func85, Try.ntmps85
  go_wp2_with (go_at_call 100; ((with_reducible refine HCO.out.mono ?_); rintro e w1 ⟨ht, ⟨n, q, hr, rfl, hc⟩ | ⟨f, hr, rfl⟩⟩ <;> have HT1 := Lib.hid (Turn.of' (gx := gx) ht) <;> have HX1 := Lib.hid (HX.out.keep (by omega) ht (by have := HE.out.1; have := hgx.ne; omega)) <;> have HR := Lib.hid hr <;> clear ht hr; all_goals (first | (have x1 := HX1.out.cell (List.getElem?_eq_getElem hox); have z1 := HX1.out.froz hox; have r2 := hc.box.cell (j := 2) rfl; have HC1 := Lib.hid hc; clear hc) | skip)))
  · have x2 := HX1.out.cell HV.out
    rw [setCell_id x2]
    have hid : cs.set ox (.slice none 0 0) = cs := List.set_getElem_self' HV.out
    have HL0 : Hid (Ls w w1 g gx ox a c bs q cs 3 1 none 0 0 []) := ⟨HC1.out, HT1.out, by rw [hid]; exact HX1.out, Can.nil _ _ _ _, (fun _ _ _ h => by cases h), HE.out.2, HE.out.1, hgx, hox⟩
    have hnq := count_le HR.out
    have hnl : n ≤ 2000000 := Nat.le_trans hnq (Nat.le_trans (Nat.div_le_self _ _) (by omega))
    clear x0 x1 x2 z1 r2 hid HX1 HT1 HC1 hnq
    go_loopw [26] (fun i wr => ∃ (xs : List Int) (q1 : Nat) (a1 : Option Addr) (c1 : Nat), xs.length ≤ n ∧ i = .int .i64 xs.length ∧ Hid (Ls w wr g gx ox a c bs q1 cs 3 1 a1 xs.length c1 (xs.flatMap cellsInt)) ∧ Hid (timesP numP xs.length bs q = .ok (xs, q1))) (fun i _ => n - (intOf i).toNat)
    case atStart => exact ⟨[], q, none, 0, by simp, rfl, HL0.out, rfl⟩
    case round =>
      obtain ⟨xs, q1, a1, c1, hk, rfl, hls, htm⟩ := hrel
      by_cases hlt : xs.length < n
      · have ht' := hls.out.turn.size
        have hoffX : Off g (rowA a bs) wr.heap.size := hls.out.cr.new (Nat.le_refl _)
        have HON := Lib.hid (number_t g c q1 wr.heap.size 0 a bs [.int .i64 0] (wr.alloc (.cells #[.int .i64 0] 3)) (hls.out.cr.below (mid_alloc' (Below.refl _ _))) hl (Box.of_alloc (Below.refl _ _)) hoffX (by simp))
        go_upto_region 7 with ((go_at_call 79; ((with_reducible refine HON.out.mono ?_); rintro en w4 ⟨ht, ⟨v, q4, hr, rfl, hc, hb⟩ | ⟨f, hr, rfl, hb⟩⟩ <;> have HR4 := Lib.hid hr <;> clear hr; all_goals (first | (have HL4 := Lib.hid (hls.out.one ht hc); replace hb : Box w4 wr.heap.size [.int .i64 v] := hb; have y0 := hb.cell (j := 0) rfl; have HX4 := Lib.hid hb; have k0 := HL4.out.box.cell (j := ox) (by rw [List.getElem?_set_self hox]); have kz := HL4.out.box.froz (j := ox) (by rw [List.length_set]; exact hox); have ea : gx < w4.heap.size := HL4.out.box.lt (by rw [List.length_set]; omega); have eb : wr.heap.size < w4.heap.size := HX4.out.lt (by simp); clear ht hc hb) | (have HL4 := Lib.hid (Keep.trans (hls.out.turn.next (Turn.below (mid_alloc' (Below.refl _ _)))) (ht.mono fun k _ e => by rcases e with e | e | e; exact .inl e; exact .inr (.inr (by have := hls.out.turn.size; omega)); exact .inr (.inr (by have := hls.out.turn.size; simp at e; omega))) : Turn g gx w w4); have HB4 := Lib.hid ((hls.out.box.next (by rw [List.length_set]; omega) (mid_alloc' (Below.refl _ _)) : Box (wr.alloc (.cells #[.int .i64 0] 3)) gx _).keep (by rw [List.length_set]; omega) ht (by have := hls.out.xl; have := hgx.ne; simp; omega)); clear ht hb)))))
        · have hDr : w.heap.size ≤ w4.heap.size := HL4.out.turn.size
          go_region_law (first
            | (refine step_far el_int rfl (.tmp 33) (.tmp 35) rfl w.heap.size a1 xs.length c1 (xs.flatMap cellsInt) rfl (Can.drew (HL4.out.can.alloc _)) (some ⟨w4.heap.size, 0, none⟩) 1 1 [.int .i64 v] rfl rfl (Row.drew (Row.new _ _ _ _)) (by intro u hu; simp at hu; rcases hu with rfl <;> rfl) (by omega) (by simp; omega) (fun b o s e => ⟨(HL4.out.far b o s e).1, by have := (HL4.out.far b o s e).2; simp; omega⟩) ?_; intro a2 c2 w5 hcan2 hg2 hn2 hf2 hl2; have hst := HL4.out.push (((Below.refl _ _).alloc (Nat.le_refl _) _).drew) hcan2 hg2 hf2 hl2; have q0 := hst.2.1.cell (j := ox) (by rw [List.getElem?_set_self hox]); have q1z := hst.2.1.froz (j := ox) (by rw [List.length_set]; exact hox); have HST := Lib.hid hst;  clear hst hcan2 hg2 hn2 hf2 hl2))
          all_goals
            clear q0 q1z
            go_wp2_with fail
            exact ⟨⟨xs ++ [v], q4, a2, c2, by simp; omega, by simp, by (show Ls _ _ _ _ _ _ _ _ _ _ _ _ _ _ _ _); rw [List.length_append, List.flatMap_append, List.flatMap_singleton]; exact HST.out.1, by (show _ = _); rw [List.length_append]; exact times_snoc htm.out HR4.out⟩, by simp [intOf]; omega⟩
        · refine ⟨rfl, HL4.out, .inr ⟨_, ?_, rfl, .of HB4.out (by rw [List.length_set])⟩⟩
          (show bindP _ _ = _); rw [HR.out]
          exact times_fail htm.out HR4.out hlt
      · have hln : xs.length = n := by omega
        have HLN := Lib.hid hln
        have hd : decide (xs.length < n) = false := decide_eq_false hlt
        clear hln hlt
        go_wp2
        first | go_end0 | refine bodyPost_ret (results_none rfl _ _ _) rfl ?_
        refine ⟨hls.out.turn, .inl ⟨xs, q1, ?_, rfl, hls.out.cr, a1, c1, hls.out.box, ⟨hls.out.can.row, fun _ b o s e => (hls.out.far b o s e).1⟩, hls.out.can.le⟩⟩
        (show bindP _ _ = _); rw [HR.out, bindP_ok, ← HLN.out]; exact htm.out
  · exact ⟨rfl, HT1.out, .inr ⟨_, by (show bindP _ _ = _); rw [HR.out]; rfl, rfl, .of HX1.out rfl⟩⟩
end Go.Proofs.Ytlckgnemmffdkaa

/- Lists behind a writer's bytes: a list of Int. (printed by gen_wirlist.py) -/
namespace Go.Proofs.Ytlckgnemmffdkaa
open Go.ChangeShapes Go.WideShapes Go.ChangeAt Go.RowKit
set_option maxRecDepth 100000

set_option maxHeartbeats 4000000 in
theorem listint_w (D g gx ox c m kk : Nat) (a ad : Option Addr) (bs : List UInt8) (xs : List (Int)) (w : World) (h : Cw w D g a c bs) (hD : D ≤ w.heap.size) (hx : w.cell? ⟨gx, ox, none⟩ = some (.slice ad m kk)) (hm : xs.length = m) (hr : LowRow g w ad (xs.flatMap cellsInt)) (hgx : gx ≠ g) (hxa : ∀ o s, a ≠ some ⟨gx, o, s⟩) (hn : bs.length ≤ 1500000) (hsz : (xs.flatMap be8).length ≤ 1000000) (hm2 : m ≤ 1000000) :
    Calls Try.prog 85 #[.pointer (some ⟨g, 0, none⟩), .pointer (some ⟨gx, ox, none⟩), .int .i64 8, .func (.func 79) #[.pointer (some ⟨g, 0, none⟩)] #[]] w (RetCw w D g a (bs ++ (be8 xs.length ++ xs.flatMap be8))) := by
  have HCO : Hid (Calls Try.prog 100 #[.pointer (some ⟨g, 0, none⟩), .int .i64 m, .int .i64 8] w (RetCount' w D g a m (bs ++ be8 (m : Int)))) := count_w D g c 8 m a bs w h hD (by omega)
  have HC := Lib.hid h
  have HX := Lib.hid (And.intro hx (And.intro hgx hxa))
  have HR := Lib.hid hr
  have HM := Lib.hid hm
  have hgxl := World.block_lt_of_cell? w _ hx
  have hlb : (bs ++ be8 (m : Int)).length ≤ 1500008 := by rw [List.length_append, be8_length]; omega
  have HTT := Lib.hid (show bs ++ (be8 xs.length ++ xs.flatMap be8) = (bs ++ be8 (m : Int)) ++ xs.flatMap be8 by rw [hm, List.append_assoc])
  clear h hgx hxa hr hm
  generalize bs ++ be8 (m : Int) = l1 at HCO HTT hlb
  go_enter Try.func85, Try.ntmps85
  go_wp2_with (go_at_call 100; ((with_reducible refine HCO.out.mono ?_); rintro e w1 ⟨a1, c1, rfl, hcw1, hgr1⟩; have y1 := grew_cell hgr1 HX.out.1 HX.out.2.1 HX.out.2.2; have y2 := hcw1.box.cell (j := 2) rfl; have HC1 := Lib.hid hcw1; have HG1 := Lib.hid hgr1; clear hcw1 hgr1))
  clear y1 y2
  go_loopw [43] (fun i wr => ∃ (k : Nat) (a3 : Option Addr) (c3 : Nat), k ≤ m ∧ i = .int .i64 k ∧ Hid (Cw wr D g a3 c3 (l1 ++ (xs.take k).flatMap be8)) ∧ Hid (Grew g a a3 w wr)) (fun i _ => m - (intOf i).toNat)
  case atStart => exact ⟨0, a1, c1, by omega, rfl, by show Cw _ _ _ _ _ _; simpa using HC1.out, HG1.out⟩
  case round =>
    obtain ⟨k, a3, c3, hk, rfl, hcw, hgr⟩ := hrel
    by_cases hlt : k < m
    · have hkx : k < xs.length := by rw [HM.out]; exact hlt
      have hDr : D ≤ wr.heap.size := Nat.le_trans hD hgr.out.size
      have y1 := grew_cell hgr.out HX.out.1 HX.out.2.1 HX.out.2.2
      have hrow := HR.out.grew HC.out hgr.out
      have HT := Lib.hid (show l1 ++ (xs.take (k + 1)).flatMap be8 = (l1 ++ (xs.take k).flatMap be8) ++ be8 (xs[k]'hkx) by rw [List.take_succ_eq_append_getElem hkx, List.flatMap_append, List.flatMap_singleton, List.append_assoc])
      have hll : (l1 ++ (xs.take k).flatMap be8).length ≤ 2600000 := by
        have h1 : xs.flatMap be8 = (xs.take k).flatMap be8 ++ (xs.drop k).flatMap be8 := by rw [← List.flatMap_append, List.take_append_drop]
        have h2 := congrArg List.length h1
        rw [List.length_append] at h2
        rw [List.length_append]; omega
      obtain ⟨b, o, rfl, hcell⟩ := Row.at hrow.row (k := k * 1) (by rw [flatMap_len (cells := cellsInt) (size := 1) (fun _ => rfl)]; have := Nat.mul_lt_mul_of_pos_right hkx (show 0 < 1 by decide); omega)
      have hce : ∀ r, r < 1 → wr.cell? ⟨b, o + k * 1 + r, none⟩ = (cellsInt (xs[k]'hkx))[r]? := fun r hr => by
        have h1 := flatMap_at (cells := cellsInt) (size := 1) (fun _ => rfl) (xs := xs) (i := k) hr
        rw [List.getElem?_eq_getElem hkx, Option.bind_some] at h1
        have h2 : k * 1 + r < (xs.flatMap cellsInt).length := by
          rw [flatMap_len (cells := cellsInt) (size := 1) (fun _ => rfl)]
          first | (simp only [Nat.mul_one]; omega) | (have := Nat.mul_le_mul_right 1 (Nat.succ_le_of_lt hkx); rw [Nat.succ_mul] at this; omega)
        have h3 := hcell (k * 1 + r) h2
        rw [Nat.add_assoc, h3, ← h1, List.getElem?_eq_getElem h2]
      generalize xs[k]'hkx = v0 at HT hce
      have q0 := hce 0 (by decide)
      rw [show (cellsInt v0)[0]? = some (.int .i64 v0) from rfl] at q0
      simp only [Nat.mul_one, Nat.add_zero] at q0
      clear hce hcell hrow hkx
      have HON := Lib.hid (number_w D g wr.heap.size 0 c3 a3 (l1 ++ (xs.take k).flatMap be8) v0 (wr.alloc (.cells #[.int .i64 v0] 3)) (hcw.out.below (mid_alloc' (Below.refl _ _))) (by simp; omega) ((Box.of_alloc (cs := [.int .i64 v0]) (Below.refl _ _)).cell (j := 0) rfl) hcw.out.new.1 hcw.out.new.2 (by omega))
      go_wp2_with (go_at_call 79; ((with_reducible refine HON.out.mono ?_); rintro en w4 ⟨a4, c4, rfl, hcw4, hgr4⟩; have HC4 := Lib.hid hcw4; have HG4 := Lib.hid (hgr4.pre (mid_alloc' (Below.refl _ _))); clear hcw4 hgr4))
      exact ⟨⟨k + 1, a4, c4, by omega, by go_num, by show Cw _ _ _ _ _ _; rw [HT.out]; exact HC4.out, hgr.out.trans HG4.out⟩, by simp [intOf]; omega⟩
    · obtain rfl : k = m := by omega
      have hd : decide (k < k) = false := decide_eq_false (by omega)
      go_wp2
      first | go_end0 | refine bodyPost_ret (results_none rfl _ _ _) rfl ?_
      refine ⟨a3, c3, rfl, ?_, hgr.out⟩
      rw [HTT.out]
      have h := hcw.out
      rw [List.take_of_length_le (by rw [HM.out]; exact Nat.le_refl _)] at h; exact h
end Go.Proofs.Ytlckgnemmffdkaa

/- An argument opened: weir/api.Entry. (printed by gen_wopen.py) -/
namespace Go.Proofs.Ytlckgnemmffdkaa
open Go.ChangeShapes Go.WideShapes Go.ChangeAt Go.RowKit
set_option maxRecDepth 100000

theorem open_went {H : Type} {enc : TypeId × Value → H} {w : World} {cs : List Value} (h : Rd enc Try.prog w 32 cs) : ∃ (v : WEnt) (p : PEnt), cs = cellsEnt v p ∧ goodWEnt v ∧ LowEnt w.heap.size w v p ∧ v.data.length ≤ p.2 ∧ v.data.length ≤ 1000000000000000 := by
  obtain ⟨hl, hf⟩ := h.struct Try.underlying32
  rw [show Try.prog.cellsOf 32 = 5 by kernel_rfl] at hl
  match cs, hl with
  | [v0, v1, v2, v3, v4], _ =>
    have f0 : Rd enc Try.prog w 3 ((([v0, v1, v2, v3, v4] : List Value).drop 0).take (Try.prog.cellsOf 3)) := hf 0 _ rfl
    rw [show Try.prog.cellsOf 3 = 1 by kernel_rfl] at f0
    replace f0 : Rd enc Try.prog w 3 [v0] := f0
    have f1 : Rd enc Try.prog w 30 ((([v0, v1, v2, v3, v4] : List Value).drop 1).take (Try.prog.cellsOf 30)) := hf 1 _ rfl
    rw [show Try.prog.cellsOf 30 = 1 by kernel_rfl] at f1
    replace f1 : Rd enc Try.prog w 30 [v1] := f1
    have f2 : Rd enc Try.prog w 3 ((([v0, v1, v2, v3, v4] : List Value).drop 2).take (Try.prog.cellsOf 3)) := hf 2 _ rfl
    rw [show Try.prog.cellsOf 3 = 1 by kernel_rfl] at f2
    replace f2 : Rd enc Try.prog w 3 [v2] := f2
    have f3 : Rd enc Try.prog w 5 ((([v0, v1, v2, v3, v4] : List Value).drop 3).take (Try.prog.cellsOf 5)) := hf 3 _ rfl
    rw [show Try.prog.cellsOf 5 = 1 by kernel_rfl] at f3
    replace f3 : Rd enc Try.prog w 5 [v3] := f3
    have f4 : Rd enc Try.prog w 22 ((([v0, v1, v2, v3, v4] : List Value).drop 4).take (Try.prog.cellsOf 22)) := hf 4 _ rfl
    rw [show Try.prog.cellsOf 22 = 1 by kernel_rfl] at f4
    replace f4 : Rd enc Try.prog w 22 [v4] := f4
    obtain ⟨x0, e0, g0⟩ := f0.int Try.underlying3
    replace g0 := bounds_i64 g0
    simp only [List.cons.injEq, and_true] at e0
    subst e0
    obtain ⟨x1, e1, g1⟩ := f1.int Try.underlying30
    replace g1 := bounds_i8 g1
    simp only [List.cons.injEq, and_true] at e1
    subst e1
    obtain ⟨x2, e2, g2⟩ := f2.int Try.underlying3
    replace g2 := bounds_i64 g2
    simp only [List.cons.injEq, and_true] at e2
    subst e2
    obtain ⟨x3, e3, g3⟩ := f3.int Try.underlying5
    replace g3 := bounds_u8 g3
    have u3 : Value.int .u8 x3 = B (UInt8.ofNat x3.toNat) := by unfold B; rw [UInt8.toNat_ofNat']; congr 1; omega
    simp only [List.cons.injEq, and_true] at e3
    subst e3
    have hs4 : ∃ a n c, v4 = .slice a n c := by
      rcases f4.slice Try.underlying22 with h1 | ⟨a, n, c, h1, _⟩
      · simp at h1; exact ⟨_, _, _, h1⟩
      · simp at h1; exact ⟨_, _, _, h1⟩
    obtain ⟨a4, n4, c4, rfl⟩ := hs4
    obtain ⟨l4, m4, nc4, cm4, bb4, -, r4⟩ := f4.bytes Try.underlying22 Try.underlying5 (by kernel_rfl)
    rw [show Try.prog.bytesOf 5 = 1 by kernel_rfl] at bb4
    subst m4
    have hh : l4.length ≤ 1000000000000000 := by unfold reachBytes at bb4; omega
    exact ⟨⟨x0, x1, x2, UInt8.ofNat x3.toNat, l4⟩, (a4, c4), by unfold cellsEnt; rw [← u3], ⟨inI_of g0, kindIn_of g1, inI_of g2, trivial, short_of nc4 cm4⟩, ⟨LowRow.of r4 (Nat.le_refl _)⟩, nc4, hh⟩
end Go.Proofs.Ytlckgnemmffdkaa

/- An argument opened: weir/api.Snapshot. (printed by gen_wopen.py) -/
namespace Go.Proofs.Ytlckgnemmffdkaa
open Go.ChangeShapes Go.WideShapes Go.ChangeAt Go.RowKit
set_option maxRecDepth 100000

theorem open_wsnap {H : Type} {enc : TypeId × Value → H} {w : World} {cs : List Value} (h : Rd enc Try.prog w 65 cs) : ∃ (x y : Int) (s : UInt8) (l : List UInt8) (a : Option Addr) (c : Nat), cs = [.int .i64 x, .int .i64 y, B s, .slice a l.length c] ∧ InI x ∧ InI y ∧ Short l.length ∧ RowB w a l := by
  obtain ⟨hl, hf⟩ := h.struct Try.underlying65
  rw [show Try.prog.cellsOf 65 = 4 by kernel_rfl] at hl
  match cs, hl with
  | [v0, v1, v2, v3], _ =>
    have f0 : Rd enc Try.prog w 3 ((([v0, v1, v2, v3] : List Value).drop 0).take (Try.prog.cellsOf 3)) := hf 0 _ rfl
    rw [show Try.prog.cellsOf 3 = 1 by kernel_rfl] at f0
    replace f0 : Rd enc Try.prog w 3 [v0] := f0
    have f1 : Rd enc Try.prog w 3 ((([v0, v1, v2, v3] : List Value).drop 1).take (Try.prog.cellsOf 3)) := hf 1 _ rfl
    rw [show Try.prog.cellsOf 3 = 1 by kernel_rfl] at f1
    replace f1 : Rd enc Try.prog w 3 [v1] := f1
    have f2 : Rd enc Try.prog w 5 ((([v0, v1, v2, v3] : List Value).drop 2).take (Try.prog.cellsOf 5)) := hf 2 _ rfl
    rw [show Try.prog.cellsOf 5 = 1 by kernel_rfl] at f2
    replace f2 : Rd enc Try.prog w 5 [v2] := f2
    have f3 : Rd enc Try.prog w 22 ((([v0, v1, v2, v3] : List Value).drop 3).take (Try.prog.cellsOf 22)) := hf 3 _ rfl
    rw [show Try.prog.cellsOf 22 = 1 by kernel_rfl] at f3
    replace f3 : Rd enc Try.prog w 22 [v3] := f3
    obtain ⟨x0, e0, g0⟩ := f0.int Try.underlying3
    replace g0 := bounds_i64 g0
    simp only [List.cons.injEq, and_true] at e0
    subst e0
    obtain ⟨x1, e1, g1⟩ := f1.int Try.underlying3
    replace g1 := bounds_i64 g1
    simp only [List.cons.injEq, and_true] at e1
    subst e1
    obtain ⟨x2, e2, g2⟩ := f2.int Try.underlying5
    replace g2 := bounds_u8 g2
    have u2 : Value.int .u8 x2 = B (UInt8.ofNat x2.toNat) := by unfold B; rw [UInt8.toNat_ofNat']; congr 1; omega
    simp only [List.cons.injEq, and_true] at e2
    subst e2
    have hs3 : ∃ a n c, v3 = .slice a n c := by
      rcases f3.slice Try.underlying22 with h1 | ⟨a, n, c, h1, _⟩
      · simp at h1; exact ⟨_, _, _, h1⟩
      · simp at h1; exact ⟨_, _, _, h1⟩
    obtain ⟨a3, n3, c3, rfl⟩ := hs3
    obtain ⟨l3, m3, nc3, cm3, bb3, -, r3⟩ := f3.bytes Try.underlying22 Try.underlying5 (by kernel_rfl)
    clear bb3
    subst m3
    exact ⟨x0, x1, UInt8.ofNat x2.toNat, l3, a3, c3, by rw [← u2], inI_of g0, inI_of g1, short_of nc3 cm3, r3⟩
end Go.Proofs.Ytlckgnemmffdkaa

/- The document's writer: a truth, bytes. (printed by gen_wirrefw.py) -/
namespace Go.Proofs.Ytlckgnemmffdkaa
open Go.ChangeShapes Go.WideShapes Go.ChangeAt Go.RowKit
set_option maxRecDepth 100000

theorem LowRow.gro {D c : Nat} {w w' : World} {a a' ad : Option Addr} {bs : List UInt8} {xs : List Value} (h : LowRow D w ad xs) (hc : Cb w D a c bs) (hg : Gro a a' w w') : LowRow D w' ad xs :=
  h.block fun k hk hs => hg.keep k hs (fun o s e => by have := (hc.far _ _ _ e).1; omega)
set_option maxHeartbeats 1000000 in
theorem truth_rf (D c : Nat) (a : Option Addr) (bs : List UInt8) (x : Bool) (w : World) (h : Cb w D a c bs) (hD : D ≤ w.heap.size) (hn : bs.length ≤ 10000000) :
    Calls Try.prog 63 #[.slice a bs.length c, .bool x] w (RetCb w D a (bs ++ [truthB x])) := by
  have HC := Lib.hid h
  clear h
  cases x
  · have HV : Hid ([B (truthB false)] = [.int .u8 0]) := rfl
    go_enter Try.func63, Try.ntmps63
    go_wp2_with (at_builtin; (refine wpList_far el_bytes rfl (.tmp 9) (.tmp 10) rfl D a bs.length c (bs.map B) rfl (HC.out.can.alloc _) (some ⟨w.heap.size, 0, none⟩) 1 1 [B (truthB false)] rfl rfl (by rw [HV.out]; exact Row.new _ _ _ _) (by intro u hu; simp at hu; subst hu; rfl) (by omega) (by simp; omega) (fun b o s e => ⟨(HC.out.far b o s e).1, by have := (HC.out.far b o s e).2; simp; omega⟩) ?_); intro a2 c2 w2 hcan2 hg2 hn2 hf2 hl2; have hst := Cb.step (ns := [truthB false]) ((Below.refl _ _).alloc (Nat.le_refl _) _) hcan2 hg2 hn2 hf2 hl2; have HST := Lib.hid hst; clear hst hcan2 hg2 hn2 hf2 hl2)
    go_ret
    exact ⟨a2, c2, by rw [List.length_append]; rfl, HST.out.1, HST.out.2⟩
  · have HV : Hid ([B (truthB true)] = [.int .u8 1]) := rfl
    go_enter Try.func63, Try.ntmps63
    go_wp2_with (at_builtin; (refine wpList_far el_bytes rfl (.tmp 6) (.tmp 7) rfl D a bs.length c (bs.map B) rfl (HC.out.can.alloc _) (some ⟨w.heap.size, 0, none⟩) 1 1 [B (truthB true)] rfl rfl (by rw [HV.out]; exact Row.new _ _ _ _) (by intro u hu; simp at hu; subst hu; rfl) (by omega) (by simp; omega) (fun b o s e => ⟨(HC.out.far b o s e).1, by have := (HC.out.far b o s e).2; simp; omega⟩) ?_); intro a2 c2 w2 hcan2 hg2 hn2 hf2 hl2; have hst := Cb.step (ns := [truthB true]) ((Below.refl _ _).alloc (Nat.le_refl _) _) hcan2 hg2 hn2 hf2 hl2; have HST := Lib.hid hst; clear hst hcan2 hg2 hn2 hf2 hl2)
    go_ret
    exact ⟨a2, c2, by rw [List.length_append]; rfl, HST.out.1, HST.out.2⟩
set_option maxHeartbeats 1000000 in
theorem bytes_rf (D c m k : Nat) (a ad : Option Addr) (bs ds : List UInt8) (w : World) (h : Cb w D a c bs) (hD : D ≤ w.heap.size) (hm : ds.length = m) (hr : LowRow D w ad (ds.map B)) (hn : bs.length ≤ 9000000) (hn2 : m ≤ 9000000) :
    Calls Try.prog 74 #[.slice a bs.length c, .slice ad m k] w (RetCb w D a (bs ++ (be8 ds.length ++ ds))) := by
  have HNU := Lib.hid (number_rf D c a bs (m : Int) w h hD (by omega))
  have HC := Lib.hid h
  have HR := Lib.hid hr
  have HM := Lib.hid hm
  have hlb : (bs ++ be8 (m : Int)).length ≤ 9000008 := by rw [List.length_append, be8_length]; omega
  have HT := Lib.hid (show bs ++ (be8 ds.length ++ ds) = (bs ++ be8 (m : Int)) ++ ds by rw [hm, List.append_assoc])
  clear h hr hm
  generalize bs ++ be8 (m : Int) = l1 at HNU HT hlb
  go_enter Try.func74, Try.ntmps74
  go_wp2_with (first
    | (go_at_call 62; ((with_reducible refine HNU.out.mono ?_); rintro e w1 ⟨a1, c1, rfl, hb1, hg1⟩; have HR1 := Lib.hid (HR.out.gro HC.out hg1); have HD1 := Lib.hid (Nat.le_trans hD hg1.size); have HC1 := Lib.hid hb1; have HG1 := Lib.hid hg1; clear hb1 hg1))
    | (at_builtin; (refine wpList_far el_bytes rfl (.tmp 8) (.tmp 9) rfl D a1 l1.length c1 (l1.map B) rfl HC1.out.can ad m k (ds.map B) rfl (by rw [List.length_map, HM.out, Nat.mul_one]) HR1.out.row (bytes_one _) (by omega) HD1.out (fun b o s e => HC1.out.far b o s e) ?_); intro a2 c2 w2 hcan2 hg2 hn2 hf2 hl2; rw [← HM.out] at hcan2; have hst := Cb.step (ns := ds) (Below.refl _ _) hcan2 hg2 hn2 hf2 hl2; have HST := Lib.hid hst; clear hst hcan2 hg2 hn2 hf2 hl2))
  go_ret
  refine ⟨a2, c2, ?_, ?_, HG1.out.trans HST.out.2⟩
  · rw [HT.out, List.length_append, HM.out]; rfl
  · rw [HT.out]; exact HST.out.1
/-- The same, the bytes under a name of their own. -/
def RetCbL (w : World) (D : Nat) (a : Option Addr) (bs ns : List UInt8) (k : Nat) (e : Ending) (w' : World) : Prop := ∃ l a' c', e = .returned (.slice a' l.length c') ∧ l = bs ++ ns ∧ l.length ≤ bs.length + k ∧ Cb w' D a' c' l ∧ Gro a a' w w'
theorem RetCb.l {w w' : World} {D k : Nat} {a : Option Addr} {bs ns : List UInt8} {e : Ending} (h : RetCb w D a (bs ++ ns) e w') (hk : ns.length ≤ k) : RetCbL w D a bs ns k e w' := by
  obtain ⟨a', c', h1, h2, h3⟩ := h
  exact ⟨_, a', c', h1, rfl, by rw [List.length_append]; omega, h2, h3⟩
theorem number_rl (D c : Nat) (a : Option Addr) (bs : List UInt8) (v : Int) (w : World) (h : Cb w D a c bs) (hD : D ≤ w.heap.size) (hn : bs.length ≤ 10000000) :
    Calls Try.prog 62 #[.slice a bs.length c, .int .i64 v] w (RetCbL w D a bs (be8 v) 8) := (number_rf D c a bs v w h hD hn).mono fun _ _ h => h.l (by rw [be8_length]; exact Nat.le_refl _)
theorem truth_rl (D c : Nat) (a : Option Addr) (bs : List UInt8) (x : Bool) (w : World) (h : Cb w D a c bs) (hD : D ≤ w.heap.size) (hn : bs.length ≤ 10000000) :
    Calls Try.prog 63 #[.slice a bs.length c, .bool x] w (RetCbL w D a bs [truthB x] 1) := (truth_rf D c a bs x w h hD hn).mono fun _ _ h => h.l (Nat.le_refl _)
theorem bytes_rl (D c m k : Nat) (a ad : Option Addr) (bs ds : List UInt8) (w : World) (h : Cb w D a c bs) (hD : D ≤ w.heap.size) (hm : ds.length = m) (hr : LowRow D w ad (ds.map B)) (hn : bs.length ≤ 9000000) (hn2 : m ≤ 9000000) :
    Calls Try.prog 74 #[.slice a bs.length c, .slice ad m k] w (RetCbL w D a bs (be8 ds.length ++ ds) (8 + m)) := (bytes_rf D c m k a ad bs ds w h hD hm hr hn hn2).mono fun _ _ h => h.l (by rw [List.length_append, be8_length, hm]; exact Nat.le_refl _)
end Go.Proofs.Ytlckgnemmffdkaa

/- The same bytes, the same entries. -/
namespace Go.Proofs.Ytlckgnemmffdkaa
open Go.ChangeShapes Go.WideShapes Go.ChangeAt Go.RowKit
set_option maxRecDepth 100000

theorem same_data (a b : Option Addr) (c d n m : Nat) (l : List UInt8) (w : World) (ha : RowB w a l) (hb : RowB w b l) (hn : l.length = n) (hm : l.length = m) :
    Calls Try.prog 51 #[.slice a n c, .slice b m d] w (fun e w' => e = .returned (.bool true) ∧ w = w') := by
  have h1 := conv_bytes (c := c) ha hn
  have h2 := conv_bytes (c := d) hb hm
  clear ha hb hn hm
  go_enter Try.func51, Try.ntmps51
  go_wp2
  go_ret
  exact ⟨rfl, rfl⟩
set_option maxHeartbeats 1000000 in
theorem same_entry (v : WEnt) (p q : PEnt) (w : World) (hp : RowB w p.1 v.data) (hq : RowB w q.1 v.data) :
    Calls Try.prog 18 #[valEnt v p, valEnt v q] w (fun e w' => e = .returned (.bool true) ∧ Below w.heap.size w w') := by
  obtain ⟨v0, v1, v2, v3, v4⟩ := v
  obtain ⟨p0, p1⟩ := p
  obtain ⟨q0, q1⟩ := q
  have hB : Below w.heap.size w ((w.alloc (.cells #[.int .i64 v0, .int .i8 v1, .int .i64 v2, B v3, .slice p0 v4.length p1] 32)).alloc (.cells #[.int .i64 v0, .int .i8 v1, .int .i64 v2, B v3, .slice q0 v4.length q1] 32)) := mid_alloc' (mid_alloc' (Below.refl _ _))
  have HS := Lib.hid (same_data p0 q0 p1 q1 v4.length v4.length v4 _ (hp.below hB) (hq.below hB) rfl rfl)
  have HB := Lib.hid hB
  clear hp hq hB
  unfold valEnt
  simp only
  go_enter Try.func18, Try.ntmps18
  go_wp2_with (go_at_call 51; ((with_reducible refine HS.out.mono ?_); rintro e w1 ⟨rfl, rfl⟩))
  go_ret
  exact ⟨rfl, HB.out⟩
end Go.Proofs.Ytlckgnemmffdkaa
