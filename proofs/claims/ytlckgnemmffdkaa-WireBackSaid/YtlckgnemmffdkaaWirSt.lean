import Derived.Test.YtlckgnemmffdkaaPackWireMessage5
import Derived.StillTailTactics
set_option linter.unusedVariables false
set_option linter.unusedSimpArgs false
/- A state out of bytes; a state behind a writer's bytes. (printed by gen_wirseq.py) -/
namespace Go.Proofs.Ytlckgnemmffdkaa
open Go.ChangeShapes Go.WideShapes Go.ChangeAt Go.RowKit
set_option maxRecDepth 100000

abbrev PSt := Option Addr × Nat × Option Addr × Nat × Option Addr × Nat × Option Addr × Nat
abbrev cellsSt (v : WSt) (p : PSt) : List Value := [.int .i64 v.term, .int .i64 v.stamp, .int .i64 v.next, .slice p.1 v.tens.length p.2.1, .slice p.2.2.1 v.leas.length p.2.2.2.1, .slice p.2.2.2.2.1 v.sess.length p.2.2.2.2.2.1, .slice p.2.2.2.2.2.2.1 v.dsks.length p.2.2.2.2.2.2.2]
def valSt (v : WSt) (p : PSt) : Value := .agg #[.int .i64 v.term, .int .i64 v.stamp, .int .i64 v.next, .slice p.1 v.tens.length p.2.1, .slice p.2.2.1 v.leas.length p.2.2.2.1, .slice p.2.2.2.2.1 v.sess.length p.2.2.2.2.2.1, .slice p.2.2.2.2.2.2.1 v.dsks.length p.2.2.2.2.2.2.2]
/-- A state's rows lie in new memory. -/
structure MemSt (W w : World) (v : WSt) (p : PSt) : Prop where
  row0 : FarRow W w p.1 (v.tens.flatMap cellsWTen)
  le0 : v.tens.length ≤ p.2.1
  row1 : FarRow W w p.2.2.1 (v.leas.flatMap cellsWLea)
  le1 : v.leas.length ≤ p.2.2.2.1
  row2 : FarRow W w p.2.2.2.2.1 (v.sess.flatMap cellsWSes)
  le2 : v.sess.length ≤ p.2.2.2.2.2.1
  row3 : FarRow W w p.2.2.2.2.2.2.1 (v.dsks.flatMap cellsWDsk)
  le3 : v.dsks.length ≤ p.2.2.2.2.2.2.2
theorem MemSt.keep {S : Nat → Prop} {W w w' : World} {v : WSt} {p : PSt} (h : MemSt W w v p) (hk : Keep S w w') (hs : ∀ k, S k → k < W.heap.size) : MemSt W w' v p := ⟨h.row0.keep hk hs, h.le0, h.row1.keep hk hs, h.le1, h.row2.keep hk hs, h.le2, h.row3.keep hk hs, h.le3⟩
theorem MemSt.mono {W W' w : World} {v : WSt} {p : PSt} (h : MemSt W w v p) (hw : W'.heap.size ≤ W.heap.size) : MemSt W' w v p := ⟨h.row0.mono hw, h.le0, h.row1.mono hw, h.le1, h.row2.mono hw, h.le2, h.row3.mono hw, h.le3⟩
theorem MemSt.below {W w w' : World} {v : WSt} {p : PSt} (h : MemSt W w v p) (hb : Below w.heap.size w w') : MemSt W w' v p := ⟨h.row0.below hb, h.le0, h.row1.below hb, h.le1, h.row2.below hb, h.le2, h.row3.below hb, h.le3⟩
def zSt : WSt := ⟨0, 0, 0, [], [], [], []⟩
def pzSt : PSt := (none, 0, none, 0, none, 0, none, 0)
theorem memzSt (W w : World) : MemSt W w zSt pzSt := ⟨FarRow.nil _ _ _, Nat.le_refl _, FarRow.nil _ _ _, Nat.le_refl _, FarRow.nil _ _ _, Nat.le_refl _, FarRow.nil _ _ _, Nat.le_refl _⟩
def IsSt (w0 : World) (gx : Nat) (v : WSt) (w' : World) : Prop := ∃ p : PSt, Box w' gx (cellsSt v p) ∧ MemSt w0 w' v p
structure LowSt (g : Nat) (w : World) (v : WSt) (p : PSt) : Prop where
  row0 : LowRow g w p.1 (v.tens.flatMap cellsWTen)
  row1 : LowRow g w p.2.2.1 (v.leas.flatMap cellsWLea)
  row2 : LowRow g w p.2.2.2.2.1 (v.sess.flatMap cellsWSes)
  row3 : LowRow g w p.2.2.2.2.2.2.1 (v.dsks.flatMap cellsWDsk)
theorem LowSt.up {g g' : Nat} {w W : World} {v : WSt} {p : PSt} (h : LowSt g w v p) (hg : g ≤ g') (hb : Below w.heap.size w W) : LowSt g' W v p := ⟨h.row0.up hg hb, h.row1.up hg hb, h.row2.up hg hb, h.row3.up hg hb⟩
structure OkSt (v : WSt) : Prop where
  size : (encWSt v).length ≤ 1000000
theorem flat_len {α : Type} {f : α → List UInt8} (hf : ∀ x, 1 ≤ (f x).length) (xs : List α) : xs.length ≤ (xs.flatMap f).length := by
  induction xs with
  | nil => simp
  | cons x xs ih => rw [List.flatMap_cons, List.length_append, List.length_cons]; have := hf x; omega
theorem encWSes_pos (x : WSes) : 1 ≤ (encWSes x).length := by unfold encWSes; simp only [List.length_append, be8_length]; omega
set_option maxHeartbeats 16000000 in
theorem state_t (g c p gx : Nat) (a : Option Addr) (bs : List UInt8) (w : World) (h : Cr w g a c bs p) (hl : bs.length ≤ 2000000) (hx : Box w gx [.int .i64 0, .int .i64 0, .int .i64 0, .slice none 0 0, .slice none 0 0, .slice none 0 0, .slice none 0 0]) (hgx : Off g (rowA a bs) gx) :
    Calls Try.prog 67 #[.pointer (some ⟨g, 0, none⟩), .pointer (some ⟨gx, 0, none⟩)] w (RetT w g gx 7 a c bs (wStP bs p) (IsSt w gx)) := by
  have hba : Below w.heap.size w (w.alloc (.cells #[.pointer (some ⟨g, 0, none⟩)] 82)) := mid_alloc' (Below.refl _ _)
  have HP := Lib.hid (show wStP bs p = bindP (numP bs p) fun v0 p => bindP (numP bs p) fun v1 p => bindP (numP bs p) fun v2 p => bindP (listP 33 wTenP bs p) fun v3 p => bindP (listP 56 wLeaP bs p) fun v4 p => bindP (listP 56 wSesP bs p) fun v5 p => bindP (listP 64 wDskP bs p) fun v6 p => .ok ((⟨v0, v1, v2, v3, v4, v5, v6⟩ : WSt), p) from rfl)
  have HGC := Lib.hid (Box.of_alloc (w := w) (cs := [.pointer (some ⟨g, 0, none⟩)]) (t := 82) (Below.refl _ _))
  have hgn : w.heap.size ≠ g ∧ w.heap.size ≠ gx := ⟨by have := h.box.lt (by simp); omega, by have := hx.lt (by simp); omega⟩
  have HGL := Lib.hid (And.intro (h.box.lt (by simp)) (hx.lt (by simp)))
  have HC := Lib.hid (h.below hba)
  have HX := Lib.hid (hx.next (by simp) hba)
  have HT := Lib.hid (Turn.below (g := g) (gx := gx) hba)
  have hmf : ∀ (fn : Fn) (first cap : Array Value) (w : World), (Instr.makeFunc fn first cap).run Try.prog w = .ok (.func fn first cap) w := fun _ _ _ _ => rfl
  obtain ⟨w1, hw1⟩ : ∃ w1, w1 = w.alloc (.cells #[.pointer (some ⟨g, 0, none⟩)] 82) := ⟨_, rfl⟩
  rw [← hw1] at HGC HC HX HT
  have HW1 := Lib.hid hw1
  clear h hx hba
  go_enter Try.func67, Try.ntmps67
  go_upto_region 1 with (fail)
  rw [← hw1]
  clear hw1
  have yg := HGC.out.cell (j := 0) rfl
  go_still_tail 4, (by kernel_rfl)
  have hbd : Below w1.heap.size w1 w1.drew := (Below.refl _ _).drew
  have HCD := Lib.hid (HC.out.below hbd)
  have HXD := Lib.hid (HX.out.next (by simp) hbd)
  have HTD := Lib.hid (Turn.next HT.out (Turn.below hbd))
  have HGD := Lib.hid (HGC.out.next (by simp) hbd)
  clear HC HX HT HGC hbd yg
  have HC := HCD
  have HX := HXD
  have HT := HTD
  have HGC := HGD
  clear HCD HXD HTD HGD
  go_wp2_with (go_at_call 79; ((with_reducible refine (number_t g c _ gx 0 a bs _ _ HC.out hl HX.out hgx (by simp)).mono ?_); rintro e w1 ⟨ht, ⟨v, q, hr, rfl, hc, hb⟩ | ⟨f, hr, rfl, hb⟩⟩ <;> replace HGC := Lib.hid (HGC.out.keep (by simp) ht (by have := HGC.out.lt (by simp); have := hgn; omega)) <;> replace HT := Lib.hid (Turn.next HT.out ht) <;> first | (replace HP := Lib.hid (step_ok HP.out hr); replace HC := Lib.hid hc; replace HX := Lib.hid hb; clear ht hr hc hb) | (have HB := Lib.hid hb; have HPE := Lib.hid (step_bad HP.out hr); clear ht hr hb)))
  · have yg := HGC.out.cell (j := 0) rfl
    go_upto_region 2 with (fail)
    go_still_tail 4, (by kernel_rfl)
    have hbd : Below w1.heap.size w1 w1.drew := (Below.refl _ _).drew
    have HCD := Lib.hid (HC.out.below hbd)
    have HXD := Lib.hid (HX.out.next (by simp) hbd)
    have HTD := Lib.hid (Turn.next HT.out (Turn.below hbd))
    have HGD := Lib.hid (HGC.out.next (by simp) hbd)
    clear HC HX HT HGC hbd yg
    have HC := HCD
    have HX := HXD
    have HT := HTD
    have HGC := HGD
    clear HCD HXD HTD HGD
    go_wp2_with (go_at_call 79; ((with_reducible refine (number_t g c _ gx 1 a bs _ _ HC.out hl HX.out hgx (by simp)).mono ?_); rintro e w1 ⟨ht, ⟨v, q, hr, rfl, hc, hb⟩ | ⟨f, hr, rfl, hb⟩⟩ <;> replace HGC := Lib.hid (HGC.out.keep (by simp) ht (by have := HGC.out.lt (by simp); have := hgn; omega)) <;> replace HT := Lib.hid (Turn.next HT.out ht) <;> first | (replace HP := Lib.hid (step_ok HP.out hr); replace HC := Lib.hid hc; replace HX := Lib.hid hb; clear ht hr hc hb) | (have HB := Lib.hid hb; have HPE := Lib.hid (step_bad HP.out hr); clear ht hr hb)))
    · have yg := HGC.out.cell (j := 0) rfl
      go_upto_region 3 with (fail)
      go_still_tail 4, (by kernel_rfl)
      have hbd : Below w1.heap.size w1 w1.drew := (Below.refl _ _).drew
      have HCD := Lib.hid (HC.out.below hbd)
      have HXD := Lib.hid (HX.out.next (by simp) hbd)
      have HTD := Lib.hid (Turn.next HT.out (Turn.below hbd))
      have HGD := Lib.hid (HGC.out.next (by simp) hbd)
      clear HC HX HT HGC hbd yg
      have HC := HCD
      have HX := HXD
      have HT := HTD
      have HGC := HGD
      clear HCD HXD HTD HGD
      go_wp2_with (go_at_call 79; ((with_reducible refine (number_t g c _ gx 2 a bs _ _ HC.out hl HX.out hgx (by simp)).mono ?_); rintro e w1 ⟨ht, ⟨v, q, hr, rfl, hc, hb⟩ | ⟨f, hr, rfl, hb⟩⟩ <;> replace HGC := Lib.hid (HGC.out.keep (by simp) ht (by have := HGC.out.lt (by simp); have := hgn; omega)) <;> replace HT := Lib.hid (Turn.next HT.out ht) <;> first | (replace HP := Lib.hid (step_ok HP.out hr); replace HC := Lib.hid hc; replace HX := Lib.hid hb; clear ht hr hc hb) | (have HB := Lib.hid hb; have HPE := Lib.hid (step_bad HP.out hr); clear ht hr hb)))
      · have yg := HGC.out.cell (j := 0) rfl
        go_upto_region 4 with (fail)
        go_still_tail 5, (by kernel_rfl)
        have hbd : Below w1.heap.size w1 w1.drew := (Below.refl _ _).drew
        have HCD := Lib.hid (HC.out.below hbd)
        have HXD := Lib.hid (HX.out.next (by simp) hbd)
        have HTD := Lib.hid (Turn.next HT.out (Turn.below hbd))
        have HGD := Lib.hid (HGC.out.next (by simp) hbd)
        clear HC HX HT HGC hbd yg
        have HC := HCD
        have HX := HXD
        have HT := HTD
        have HGC := HGD
        clear HCD HXD HTD HGD
        go_wp2_with (go_at_call 89; ((with_reducible refine (listten_t g c _ gx 3 w.heap.size a bs _ _ HC.out hl HX.out hgx (by simp) (by simp) HGC.out hgn).mono ?_); rintro e w1 ⟨ht, ⟨v, q, hr, rfl, hc, ad3, k3, hb, hd, hk⟩ | ⟨f, hr, rfl, hb⟩⟩ <;> have hsz := HT.out.size <;> replace HGC := Lib.hid (HGC.out.keep (by simp) ht (by have := HGC.out.lt (by simp); have := hgn; omega)) <;> replace HT := Lib.hid (Turn.next HT.out ht) <;> first | (replace HP := Lib.hid (step_ok HP.out hr); replace HC := Lib.hid hc; replace HX := Lib.hid hb; have HD3 := Lib.hid (hd.mono hsz); have HK3 := Lib.hid hk; clear ht hr hc hb hd hk hsz) | (have HB := Lib.hid hb; have HPE := Lib.hid (step_bad HP.out hr); clear ht hr hb hsz)))
        · have yg := HGC.out.cell (j := 0) rfl
          go_upto_region 5 with (fail)
          go_still_tail 5, (by kernel_rfl)
          have hbd : Below w1.heap.size w1 w1.drew := (Below.refl _ _).drew
          have HCD := Lib.hid (HC.out.below hbd)
          have HXD := Lib.hid (HX.out.next (by simp) hbd)
          have HTD := Lib.hid (Turn.next HT.out (Turn.below hbd))
          have HGD := Lib.hid (HGC.out.next (by simp) hbd)
          have HD3D := Lib.hid (HD3.out.below hbd)
          clear HC HX HT HGC hbd yg HD3
          have HC := HCD
          have HX := HXD
          have HT := HTD
          have HGC := HGD
          have HD3 := HD3D
          clear HCD HXD HTD HGD HD3D
          go_wp2_with (go_at_call 91; ((with_reducible refine (listlea_t g c _ gx 4 w.heap.size a bs _ _ HC.out hl HX.out hgx (by simp) (by simp) HGC.out hgn).mono ?_); rintro e w1 ⟨ht, ⟨v, q, hr, rfl, hc, ad4, k4, hb, hd, hk⟩ | ⟨f, hr, rfl, hb⟩⟩ <;> have hsz := HT.out.size <;> replace HGC := Lib.hid (HGC.out.keep (by simp) ht (by have := HGC.out.lt (by simp); have := hgn; omega)) <;> replace HD3 := Lib.hid (HD3.out.turn ht HGL.out.1 HGL.out.2) <;> replace HT := Lib.hid (Turn.next HT.out ht) <;> first | (replace HP := Lib.hid (step_ok HP.out hr); replace HC := Lib.hid hc; replace HX := Lib.hid hb; have HD4 := Lib.hid (hd.mono hsz); have HK4 := Lib.hid hk; clear ht hr hc hb hd hk hsz) | (have HB := Lib.hid hb; have HPE := Lib.hid (step_bad HP.out hr); clear ht hr hb hsz)))
          · have yg := HGC.out.cell (j := 0) rfl
            go_upto_region 6 with (fail)
            go_still_tail 5, (by kernel_rfl)
            have hbd : Below w1.heap.size w1 w1.drew := (Below.refl _ _).drew
            have HCD := Lib.hid (HC.out.below hbd)
            have HXD := Lib.hid (HX.out.next (by simp) hbd)
            have HTD := Lib.hid (Turn.next HT.out (Turn.below hbd))
            have HGD := Lib.hid (HGC.out.next (by simp) hbd)
            have HD3D := Lib.hid (HD3.out.below hbd)
            have HD4D := Lib.hid (HD4.out.below hbd)
            clear HC HX HT HGC hbd yg HD3 HD4
            have HC := HCD
            have HX := HXD
            have HT := HTD
            have HGC := HGD
            have HD3 := HD3D
            have HD4 := HD4D
            clear HCD HXD HTD HGD HD3D HD4D
            go_wp2_with (go_at_call 93; ((with_reducible refine (listses_t g c _ gx 5 w.heap.size a bs _ _ HC.out hl HX.out hgx (by simp) (by simp) HGC.out hgn).mono ?_); rintro e w1 ⟨ht, ⟨v, q, hr, rfl, hc, ad5, k5, hb, hd, hk⟩ | ⟨f, hr, rfl, hb⟩⟩ <;> have hsz := HT.out.size <;> replace HGC := Lib.hid (HGC.out.keep (by simp) ht (by have := HGC.out.lt (by simp); have := hgn; omega)) <;> replace HD3 := Lib.hid (HD3.out.turn ht HGL.out.1 HGL.out.2) <;> replace HD4 := Lib.hid (HD4.out.turn ht HGL.out.1 HGL.out.2) <;> replace HT := Lib.hid (Turn.next HT.out ht) <;> first | (replace HP := Lib.hid (step_ok HP.out hr); replace HC := Lib.hid hc; replace HX := Lib.hid hb; have HD5 := Lib.hid (hd.mono hsz); have HK5 := Lib.hid hk; clear ht hr hc hb hd hk hsz) | (have HB := Lib.hid hb; have HPE := Lib.hid (step_bad HP.out hr); clear ht hr hb hsz)))
            · have yg := HGC.out.cell (j := 0) rfl
              go_upto_region 7 with (fail)
              go_still_tail 5, (by kernel_rfl)
              have hbd : Below w1.heap.size w1 w1.drew := (Below.refl _ _).drew
              have HCD := Lib.hid (HC.out.below hbd)
              have HXD := Lib.hid (HX.out.next (by simp) hbd)
              have HTD := Lib.hid (Turn.next HT.out (Turn.below hbd))
              have HGD := Lib.hid (HGC.out.next (by simp) hbd)
              have HD3D := Lib.hid (HD3.out.below hbd)
              have HD4D := Lib.hid (HD4.out.below hbd)
              have HD5D := Lib.hid (HD5.out.below hbd)
              clear HC HX HT HGC hbd yg HD3 HD4 HD5
              have HC := HCD
              have HX := HXD
              have HT := HTD
              have HGC := HGD
              have HD3 := HD3D
              have HD4 := HD4D
              have HD5 := HD5D
              clear HCD HXD HTD HGD HD3D HD4D HD5D
              go_wp2_with (go_at_call 95; ((with_reducible refine (listdsk_t g c _ gx 6 w.heap.size a bs _ _ HC.out hl HX.out hgx (by simp) (by simp) HGC.out hgn).mono ?_); rintro e w1 ⟨ht, ⟨v, q, hr, rfl, hc, ad6, k6, hb, hd, hk⟩ | ⟨f, hr, rfl, hb⟩⟩ <;> have hsz := HT.out.size <;> replace HGC := Lib.hid (HGC.out.keep (by simp) ht (by have := HGC.out.lt (by simp); have := hgn; omega)) <;> replace HD3 := Lib.hid (HD3.out.turn ht HGL.out.1 HGL.out.2) <;> replace HD4 := Lib.hid (HD4.out.turn ht HGL.out.1 HGL.out.2) <;> replace HD5 := Lib.hid (HD5.out.turn ht HGL.out.1 HGL.out.2) <;> replace HT := Lib.hid (Turn.next HT.out ht) <;> first | (replace HP := Lib.hid (step_ok HP.out hr); replace HC := Lib.hid hc; replace HX := Lib.hid hb; have HD6 := Lib.hid (hd.mono hsz); have HK6 := Lib.hid hk; clear ht hr hc hb hd hk hsz) | (have HB := Lib.hid hb; have HPE := Lib.hid (step_bad HP.out hr); clear ht hr hb hsz)))
              · (first | go_end0 | refine bodyPost_ret (results_none rfl _ _ _) rfl ?_)
                exact ⟨HT.out, .inl ⟨_, _, HP.out, rfl, HC.out, (ad3, k3, ad4, k4, ad5, k5, ad6, k6), HX.out, ⟨HD3.out, HK3.out, HD4.out, HK4.out, HD5.out, HK5.out, HD6.out, HK6.out⟩⟩⟩
              · exact ⟨rfl, HT.out, .inr ⟨_, HPE.out, rfl, HB.out⟩⟩
            · exact ⟨rfl, HT.out, .inr ⟨_, HPE.out, rfl, HB.out⟩⟩
          · exact ⟨rfl, HT.out, .inr ⟨_, HPE.out, rfl, HB.out⟩⟩
        · exact ⟨rfl, HT.out, .inr ⟨_, HPE.out, rfl, HB.out⟩⟩
      · exact ⟨rfl, HT.out, .inr ⟨_, HPE.out, rfl, HB.out⟩⟩
    · exact ⟨rfl, HT.out, .inr ⟨_, HPE.out, rfl, HB.out⟩⟩
  · exact ⟨rfl, HT.out, .inr ⟨_, HPE.out, rfl, HB.out⟩⟩
set_option maxHeartbeats 16000000 in
theorem state_w (D g gx c : Nat) (a : Option Addr) (bs : List UInt8) (x : WSt) (p : PSt) (w : World) (h : Cw w D g a c bs) (hD : D ≤ w.heap.size) (hx : Box w gx (cellsSt x p)) (hp : LowSt g w x p) (hok : OkSt x) (hgx : gx ≠ g) (hxa : ∀ o s, a ≠ some ⟨gx, o, s⟩) (hn : bs.length ≤ 400000) :
    Calls Try.prog 67 #[.pointer (some ⟨g, 0, none⟩), .pointer (some ⟨gx, 0, none⟩)] w (RetCw w D g a (bs ++ encWSt x)) := by
  obtain ⟨term, stamp, nxt, tens, leas, sess, dsks⟩ := x
  obtain ⟨p0, p1, p2, p3, p4, p5, p6, p7⟩ := p
  have hsz := hok.size
  unfold encWSt at hsz
  simp only [List.length_append, be8_length] at hsz
  have l0 := flat_len (f := encWTen) (fun x => by have := encWTen_size x; omega) tens
  have l1 := flat_len (f := encWLea) (fun x => by have := encWLea_size x; omega) leas
  have l2 := flat_len (f := encWSes) encWSes_pos sess
  have l3 := flat_len (f := encWDsk) (fun x => by have := encWDsk_size x; omega) dsks
  have HL := Lib.hid (show ((tens.flatMap encWTen).length ≤ 1000000 ∧ tens.length ≤ 1000000) ∧ ((leas.flatMap encWLea).length ≤ 1000000 ∧ leas.length ≤ 1000000) ∧ ((sess.flatMap encWSes).length ≤ 1000000 ∧ sess.length ≤ 1000000) ∧ ((dsks.flatMap encWDsk).length ≤ 1000000 ∧ dsks.length ≤ 1000000) by omega)
  have HLT := Lib.hid (show (tens.flatMap encWTen).length + (leas.flatMap encWLea).length + (sess.flatMap encWSes).length + (dsks.flatMap encWDsk).length ≤ 1000000 by omega)
  clear l0 l1 l2 l3 hsz
  have hba : Below w.heap.size w (w.alloc (.cells #[.pointer (some ⟨g, 0, none⟩)] 82)) := mid_alloc' (Below.refl _ _)
  have HGC := Lib.hid (Box.of_alloc (w := w) (cs := [.pointer (some ⟨g, 0, none⟩)]) (t := 82) (Below.refl _ _))
  have hne := h.new
  have HG := Lib.hid ((Grew.refl g a w).next hba)
  have HC := Lib.hid (h.below hba)
  have HX : Hid (Box (w.alloc (.cells #[.pointer (some ⟨g, 0, none⟩)] 82)) gx [.int .i64 term, .int .i64 stamp, .int .i64 nxt, .slice p0 tens.length p1, .slice p2 leas.length p3, .slice p4 sess.length p5, .slice p6 dsks.length p7]) := Lib.hid (hx.next (by simp) hba)
  have HO := Lib.hid (And.intro hgx (And.intro (hx.lt (by simp)) hxa))
  have HR0 := Lib.hid (hp.row0.below hba)
  have HR1 := Lib.hid (hp.row1.below hba)
  have HR2 := Lib.hid (hp.row2.below hba)
  have HR3 := Lib.hid (hp.row3.below hba)
  have HGN := Lib.hid (And.intro hne.1 hne.2)
  have hDW : D ≤ (w.alloc (.cells #[.pointer (some ⟨g, 0, none⟩)] 82)).heap.size := Nat.le_trans hD hba.size
  have HNW := Lib.hid (show w.heap.size < (w.alloc (.cells #[.pointer (some ⟨g, 0, none⟩)] 82)).heap.size by simp)
  have hmf : ∀ (fn : Fn) (first cap : Array Value) (w : World), (Instr.makeFunc fn first cap).run Try.prog w = .ok (.func fn first cap) w := fun _ _ _ _ => rfl
  have HGW := Lib.hid (Grew.refl g a (w.alloc (.cells #[.pointer (some ⟨g, 0, none⟩)] 82)))
  obtain ⟨w1, hw1⟩ : ∃ w1, w1 = w.alloc (.cells #[.pointer (some ⟨g, 0, none⟩)] 82) := ⟨_, rfl⟩
  rw [← hw1] at HGC HC HX HG HR0 HR1 HR2 HR3 hDW HNW HGW
  clear h hx hba hp hok hgx hxa hne hD
  obtain ⟨W, hW⟩ : ∃ W, W = w1 := ⟨_, rfl⟩
  have HWW := Lib.hid hW
  go_enter Try.func67, Try.ntmps67
  go_upto_region 1 with (fail)
  rw [← hw1]
  have hDW' : D ≤ W.heap.size := by rw [hW]; exact hDW
  have HNW' : Hid (w.heap.size < W.heap.size) := Lib.hid (by rw [hW]; exact HNW.out)
  have HGW' : Hid (Grew g a a W w1) := Lib.hid (by rw [hW]; exact HGW.out)
  have HGC' : Hid (Box W w.heap.size [.pointer (some ⟨g, 0, none⟩)]) := Lib.hid (by rw [hW]; exact HGC.out)
  clear hw1 hW HGW HNW hDW HWW HGC
  have yg := (HGC'.out.grew (by simp) HGW'.out HGN.out.1 HGN.out.2).cell (j := 0) rfl
  go_still_tail 4, (by kernel_rfl)
  clear yg
  have HCD := Lib.hid (HC.out.below (Below.refl _ _).drew)
  have HXD := Lib.hid (HX.out.next (by simp) (Below.refl _ _).drew)
  have HGD := Lib.hid (HG.out.next (Below.refl _ _).drew)
  have HWD := Lib.hid (HGW'.out.next (Below.refl _ _).drew)
  have HR0D := Lib.hid (HR0.out.below (Below.refl _ _).drew)
  have HR1D := Lib.hid (HR1.out.below (Below.refl _ _).drew)
  have HR2D := Lib.hid (HR2.out.below (Below.refl _ _).drew)
  have HR3D := Lib.hid (HR3.out.below (Below.refl _ _).drew)
  clear HC HX HG HGW' HR0 HR1 HR2 HR3
  have HC := HCD
  have HX := HXD
  have HG := HGD
  have HGW' := HWD
  have HR0 := HR0D
  have HR1 := HR1D
  have HR2 := HR2D
  have HR3 := HR3D
  clear HCD HXD HGD HWD HR0D HR1D HR2D HR3D
  go_wp2_with (go_at_call 79; ((with_reducible refine (number_w D g gx 0 _ _ _ term _ HC.out (Nat.le_trans hDW' HGW'.out.size) (HX.out.cell (j := 0) (by simp)) HO.out.1 (HG.out.off HO.out.2.1 HO.out.2.2) (by first | omega | (have hlt := HLT.out; simp only [List.length_append, be8_length]; omega))).mono ?_); rintro en w1 ⟨a1, c1, rfl, hcw1, hgr1⟩; replace HX := Lib.hid (HX.out.grew (by simp) hgr1 HO.out.1 (HG.out.off HO.out.2.1 HO.out.2.2)); replace HR0 := Lib.hid (HR0.out.grew HC.out hgr1); replace HR1 := Lib.hid (HR1.out.grew HC.out hgr1); replace HR2 := Lib.hid (HR2.out.grew HC.out hgr1); replace HR3 := Lib.hid (HR3.out.grew HC.out hgr1); replace HG := Lib.hid (HG.out.trans hgr1); replace HGW' := Lib.hid (HGW'.out.trans hgr1); replace HC := Lib.hid hcw1; clear hcw1 hgr1))
  have yg := (HGC'.out.grew (by simp) HGW'.out HGN.out.1 HGN.out.2).cell (j := 0) rfl
  go_upto_region 2 with (fail)
  go_still_tail 4, (by kernel_rfl)
  clear yg
  have HCD := Lib.hid (HC.out.below (Below.refl _ _).drew)
  have HXD := Lib.hid (HX.out.next (by simp) (Below.refl _ _).drew)
  have HGD := Lib.hid (HG.out.next (Below.refl _ _).drew)
  have HWD := Lib.hid (HGW'.out.next (Below.refl _ _).drew)
  have HR0D := Lib.hid (HR0.out.below (Below.refl _ _).drew)
  have HR1D := Lib.hid (HR1.out.below (Below.refl _ _).drew)
  have HR2D := Lib.hid (HR2.out.below (Below.refl _ _).drew)
  have HR3D := Lib.hid (HR3.out.below (Below.refl _ _).drew)
  clear HC HX HG HGW' HR0 HR1 HR2 HR3
  have HC := HCD
  have HX := HXD
  have HG := HGD
  have HGW' := HWD
  have HR0 := HR0D
  have HR1 := HR1D
  have HR2 := HR2D
  have HR3 := HR3D
  clear HCD HXD HGD HWD HR0D HR1D HR2D HR3D
  go_wp2_with (go_at_call 79; ((with_reducible refine (number_w D g gx 1 _ _ _ stamp _ HC.out (Nat.le_trans hDW' HGW'.out.size) (HX.out.cell (j := 1) (by simp)) HO.out.1 (HG.out.off HO.out.2.1 HO.out.2.2) (by first | omega | (have hlt := HLT.out; simp only [List.length_append, be8_length]; omega))).mono ?_); rintro en w1 ⟨a1, c1, rfl, hcw1, hgr1⟩; replace HX := Lib.hid (HX.out.grew (by simp) hgr1 HO.out.1 (HG.out.off HO.out.2.1 HO.out.2.2)); replace HR0 := Lib.hid (HR0.out.grew HC.out hgr1); replace HR1 := Lib.hid (HR1.out.grew HC.out hgr1); replace HR2 := Lib.hid (HR2.out.grew HC.out hgr1); replace HR3 := Lib.hid (HR3.out.grew HC.out hgr1); replace HG := Lib.hid (HG.out.trans hgr1); replace HGW' := Lib.hid (HGW'.out.trans hgr1); replace HC := Lib.hid hcw1; clear hcw1 hgr1))
  have yg := (HGC'.out.grew (by simp) HGW'.out HGN.out.1 HGN.out.2).cell (j := 0) rfl
  go_upto_region 3 with (fail)
  go_still_tail 4, (by kernel_rfl)
  clear yg
  have HCD := Lib.hid (HC.out.below (Below.refl _ _).drew)
  have HXD := Lib.hid (HX.out.next (by simp) (Below.refl _ _).drew)
  have HGD := Lib.hid (HG.out.next (Below.refl _ _).drew)
  have HWD := Lib.hid (HGW'.out.next (Below.refl _ _).drew)
  have HR0D := Lib.hid (HR0.out.below (Below.refl _ _).drew)
  have HR1D := Lib.hid (HR1.out.below (Below.refl _ _).drew)
  have HR2D := Lib.hid (HR2.out.below (Below.refl _ _).drew)
  have HR3D := Lib.hid (HR3.out.below (Below.refl _ _).drew)
  clear HC HX HG HGW' HR0 HR1 HR2 HR3
  have HC := HCD
  have HX := HXD
  have HG := HGD
  have HGW' := HWD
  have HR0 := HR0D
  have HR1 := HR1D
  have HR2 := HR2D
  have HR3 := HR3D
  clear HCD HXD HGD HWD HR0D HR1D HR2D HR3D
  go_wp2_with (go_at_call 79; ((with_reducible refine (number_w D g gx 2 _ _ _ nxt _ HC.out (Nat.le_trans hDW' HGW'.out.size) (HX.out.cell (j := 2) (by simp)) HO.out.1 (HG.out.off HO.out.2.1 HO.out.2.2) (by first | omega | (have hlt := HLT.out; simp only [List.length_append, be8_length]; omega))).mono ?_); rintro en w1 ⟨a1, c1, rfl, hcw1, hgr1⟩; replace HX := Lib.hid (HX.out.grew (by simp) hgr1 HO.out.1 (HG.out.off HO.out.2.1 HO.out.2.2)); replace HR0 := Lib.hid (HR0.out.grew HC.out hgr1); replace HR1 := Lib.hid (HR1.out.grew HC.out hgr1); replace HR2 := Lib.hid (HR2.out.grew HC.out hgr1); replace HR3 := Lib.hid (HR3.out.grew HC.out hgr1); replace HG := Lib.hid (HG.out.trans hgr1); replace HGW' := Lib.hid (HGW'.out.trans hgr1); replace HC := Lib.hid hcw1; clear hcw1 hgr1))
  have yg := (HGC'.out.grew (by simp) HGW'.out HGN.out.1 HGN.out.2).cell (j := 0) rfl
  go_upto_region 4 with (fail)
  go_still_tail 5, (by kernel_rfl)
  clear yg
  have HCD := Lib.hid (HC.out.below (Below.refl _ _).drew)
  have HXD := Lib.hid (HX.out.next (by simp) (Below.refl _ _).drew)
  have HGD := Lib.hid (HG.out.next (Below.refl _ _).drew)
  have HWD := Lib.hid (HGW'.out.next (Below.refl _ _).drew)
  have HR0D := Lib.hid (HR0.out.below (Below.refl _ _).drew)
  have HR1D := Lib.hid (HR1.out.below (Below.refl _ _).drew)
  have HR2D := Lib.hid (HR2.out.below (Below.refl _ _).drew)
  have HR3D := Lib.hid (HR3.out.below (Below.refl _ _).drew)
  clear HC HX HG HGW' HR0 HR1 HR2 HR3
  have HC := HCD
  have HX := HXD
  have HG := HGD
  have HGW' := HWD
  have HR0 := HR0D
  have HR1 := HR1D
  have HR2 := HR2D
  have HR3 := HR3D
  clear HCD HXD HGD HWD HR0D HR1D HR2D HR3D
  go_wp2_with (go_at_call 89; ((with_reducible refine (listten_w D g gx 3 _ tens.length p1 w.heap.size _ p0 _ tens _ HC.out (Nat.le_trans hDW' HGW'.out.size) (HX.out.cell (j := 3) (by simp)) rfl HR0.out HO.out.1 (HG.out.off HO.out.2.1 HO.out.2.2) (by first | omega | (have hlt := HLT.out; simp only [List.length_append, be8_length]; omega)) HL.out.1.1 HL.out.1.2 ((HGC'.out.grew (by simp) HGW'.out HGN.out.1 HGN.out.2).next (by simp) (Below.refl _ _)) ⟨HGN.out.1, (HGW'.out.off HNW'.out HGN.out.2)⟩).mono ?_); rintro en w1 ⟨a1, c1, rfl, hcw1, hgr1⟩; replace HX := Lib.hid (HX.out.grew (by simp) hgr1 HO.out.1 (HG.out.off HO.out.2.1 HO.out.2.2)); replace HR0 := Lib.hid (HR0.out.grew HC.out hgr1); replace HR1 := Lib.hid (HR1.out.grew HC.out hgr1); replace HR2 := Lib.hid (HR2.out.grew HC.out hgr1); replace HR3 := Lib.hid (HR3.out.grew HC.out hgr1); replace HG := Lib.hid (HG.out.trans hgr1); replace HGW' := Lib.hid (HGW'.out.trans hgr1); replace HC := Lib.hid hcw1; clear hcw1 hgr1))
  have yg := (HGC'.out.grew (by simp) HGW'.out HGN.out.1 HGN.out.2).cell (j := 0) rfl
  go_upto_region 5 with (fail)
  go_still_tail 5, (by kernel_rfl)
  clear yg
  have HCD := Lib.hid (HC.out.below (Below.refl _ _).drew)
  have HXD := Lib.hid (HX.out.next (by simp) (Below.refl _ _).drew)
  have HGD := Lib.hid (HG.out.next (Below.refl _ _).drew)
  have HWD := Lib.hid (HGW'.out.next (Below.refl _ _).drew)
  have HR0D := Lib.hid (HR0.out.below (Below.refl _ _).drew)
  have HR1D := Lib.hid (HR1.out.below (Below.refl _ _).drew)
  have HR2D := Lib.hid (HR2.out.below (Below.refl _ _).drew)
  have HR3D := Lib.hid (HR3.out.below (Below.refl _ _).drew)
  clear HC HX HG HGW' HR0 HR1 HR2 HR3
  have HC := HCD
  have HX := HXD
  have HG := HGD
  have HGW' := HWD
  have HR0 := HR0D
  have HR1 := HR1D
  have HR2 := HR2D
  have HR3 := HR3D
  clear HCD HXD HGD HWD HR0D HR1D HR2D HR3D
  go_wp2_with (go_at_call 91; ((with_reducible refine (listlea_w D g gx 4 _ leas.length p3 w.heap.size _ p2 _ leas _ HC.out (Nat.le_trans hDW' HGW'.out.size) (HX.out.cell (j := 4) (by simp)) rfl HR1.out HO.out.1 (HG.out.off HO.out.2.1 HO.out.2.2) (by first | omega | (have hlt := HLT.out; simp only [List.length_append, be8_length]; omega)) HL.out.2.1.1 HL.out.2.1.2 ((HGC'.out.grew (by simp) HGW'.out HGN.out.1 HGN.out.2).next (by simp) (Below.refl _ _)) ⟨HGN.out.1, (HGW'.out.off HNW'.out HGN.out.2)⟩).mono ?_); rintro en w1 ⟨a1, c1, rfl, hcw1, hgr1⟩; replace HX := Lib.hid (HX.out.grew (by simp) hgr1 HO.out.1 (HG.out.off HO.out.2.1 HO.out.2.2)); replace HR0 := Lib.hid (HR0.out.grew HC.out hgr1); replace HR1 := Lib.hid (HR1.out.grew HC.out hgr1); replace HR2 := Lib.hid (HR2.out.grew HC.out hgr1); replace HR3 := Lib.hid (HR3.out.grew HC.out hgr1); replace HG := Lib.hid (HG.out.trans hgr1); replace HGW' := Lib.hid (HGW'.out.trans hgr1); replace HC := Lib.hid hcw1; clear hcw1 hgr1))
  have yg := (HGC'.out.grew (by simp) HGW'.out HGN.out.1 HGN.out.2).cell (j := 0) rfl
  go_upto_region 6 with (fail)
  go_still_tail 5, (by kernel_rfl)
  clear yg
  have HCD := Lib.hid (HC.out.below (Below.refl _ _).drew)
  have HXD := Lib.hid (HX.out.next (by simp) (Below.refl _ _).drew)
  have HGD := Lib.hid (HG.out.next (Below.refl _ _).drew)
  have HWD := Lib.hid (HGW'.out.next (Below.refl _ _).drew)
  have HR0D := Lib.hid (HR0.out.below (Below.refl _ _).drew)
  have HR1D := Lib.hid (HR1.out.below (Below.refl _ _).drew)
  have HR2D := Lib.hid (HR2.out.below (Below.refl _ _).drew)
  have HR3D := Lib.hid (HR3.out.below (Below.refl _ _).drew)
  clear HC HX HG HGW' HR0 HR1 HR2 HR3
  have HC := HCD
  have HX := HXD
  have HG := HGD
  have HGW' := HWD
  have HR0 := HR0D
  have HR1 := HR1D
  have HR2 := HR2D
  have HR3 := HR3D
  clear HCD HXD HGD HWD HR0D HR1D HR2D HR3D
  go_wp2_with (go_at_call 93; ((with_reducible refine (listses_w D g gx 5 _ sess.length p5 w.heap.size _ p4 _ sess _ HC.out (Nat.le_trans hDW' HGW'.out.size) (HX.out.cell (j := 5) (by simp)) rfl HR2.out HO.out.1 (HG.out.off HO.out.2.1 HO.out.2.2) (by first | omega | (have hlt := HLT.out; simp only [List.length_append, be8_length]; omega)) HL.out.2.2.1.1 HL.out.2.2.1.2 ((HGC'.out.grew (by simp) HGW'.out HGN.out.1 HGN.out.2).next (by simp) (Below.refl _ _)) ⟨HGN.out.1, (HGW'.out.off HNW'.out HGN.out.2)⟩).mono ?_); rintro en w1 ⟨a1, c1, rfl, hcw1, hgr1⟩; replace HX := Lib.hid (HX.out.grew (by simp) hgr1 HO.out.1 (HG.out.off HO.out.2.1 HO.out.2.2)); replace HR0 := Lib.hid (HR0.out.grew HC.out hgr1); replace HR1 := Lib.hid (HR1.out.grew HC.out hgr1); replace HR2 := Lib.hid (HR2.out.grew HC.out hgr1); replace HR3 := Lib.hid (HR3.out.grew HC.out hgr1); replace HG := Lib.hid (HG.out.trans hgr1); replace HGW' := Lib.hid (HGW'.out.trans hgr1); replace HC := Lib.hid hcw1; clear hcw1 hgr1))
  have yg := (HGC'.out.grew (by simp) HGW'.out HGN.out.1 HGN.out.2).cell (j := 0) rfl
  go_upto_region 7 with (fail)
  go_still_tail 5, (by kernel_rfl)
  clear yg
  have HCD := Lib.hid (HC.out.below (Below.refl _ _).drew)
  have HXD := Lib.hid (HX.out.next (by simp) (Below.refl _ _).drew)
  have HGD := Lib.hid (HG.out.next (Below.refl _ _).drew)
  have HWD := Lib.hid (HGW'.out.next (Below.refl _ _).drew)
  have HR0D := Lib.hid (HR0.out.below (Below.refl _ _).drew)
  have HR1D := Lib.hid (HR1.out.below (Below.refl _ _).drew)
  have HR2D := Lib.hid (HR2.out.below (Below.refl _ _).drew)
  have HR3D := Lib.hid (HR3.out.below (Below.refl _ _).drew)
  clear HC HX HG HGW' HR0 HR1 HR2 HR3
  have HC := HCD
  have HX := HXD
  have HG := HGD
  have HGW' := HWD
  have HR0 := HR0D
  have HR1 := HR1D
  have HR2 := HR2D
  have HR3 := HR3D
  clear HCD HXD HGD HWD HR0D HR1D HR2D HR3D
  go_wp2_with (go_at_call 95; ((with_reducible refine (listdsk_w D g gx 6 _ dsks.length p7 w.heap.size _ p6 _ dsks _ HC.out (Nat.le_trans hDW' HGW'.out.size) (HX.out.cell (j := 6) (by simp)) rfl HR3.out HO.out.1 (HG.out.off HO.out.2.1 HO.out.2.2) (by first | omega | (have hlt := HLT.out; simp only [List.length_append, be8_length]; omega)) HL.out.2.2.2.1 HL.out.2.2.2.2 ((HGC'.out.grew (by simp) HGW'.out HGN.out.1 HGN.out.2).next (by simp) (Below.refl _ _)) ⟨HGN.out.1, (HGW'.out.off HNW'.out HGN.out.2)⟩).mono ?_); rintro en w1 ⟨a1, c1, rfl, hcw1, hgr1⟩; replace HX := Lib.hid (HX.out.grew (by simp) hgr1 HO.out.1 (HG.out.off HO.out.2.1 HO.out.2.2)); replace HR0 := Lib.hid (HR0.out.grew HC.out hgr1); replace HR1 := Lib.hid (HR1.out.grew HC.out hgr1); replace HR2 := Lib.hid (HR2.out.grew HC.out hgr1); replace HR3 := Lib.hid (HR3.out.grew HC.out hgr1); replace HG := Lib.hid (HG.out.trans hgr1); replace HGW' := Lib.hid (HGW'.out.trans hgr1); replace HC := Lib.hid hcw1; clear hcw1 hgr1))
  (first | go_end0 | refine bodyPost_ret (results_none rfl _ _ _) rfl ?_)
  refine ⟨a1, c1, rfl, ?_, HG.out⟩
  have hc := HC.out
  simp only [List.append_assoc] at hc
  unfold encWSt
  simp only [List.append_assoc]
  exact hc
end Go.Proofs.Ytlckgnemmffdkaa
