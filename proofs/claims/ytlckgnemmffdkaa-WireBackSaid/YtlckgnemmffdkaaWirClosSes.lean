import Derived.Test.YtlckgnemmffdkaaPackWireMessage4
import Derived.StillTailTactics
set_option linter.unusedVariables false
set_option linter.unusedSimpArgs false
/- State's closures: Ses, out of bytes and behind a writer's bytes. (printed by gen_wirseq.py) -/
namespace Go.Proofs.Ytlckgnemmffdkaa
open Go.ChangeShapes Go.WideShapes Go.ChangeAt Go.RowKit
set_option maxRecDepth 100000

abbrev cellsWSes (v : WSes) : List Value := [.int .i64 v.client, .int .i64 v.number, .int .i64 v.answer.e, .int .i64 v.answer.rate, .int .i64 v.answer.burst, .int .i64 v.answer.lease, .int .i64 v.answer.size]
set_option maxHeartbeats 8000000 in
theorem closses_t (g c p gx gc : Nat) (a : Option Addr) (bs : List UInt8) (w : World) (h : Cr w g a c bs p) (hl : bs.length ≤ 2000000) (hx : Box w gx [.int .i64 0, .int .i64 0, .int .i64 0, .int .i64 0, .int .i64 0, .int .i64 0, .int .i64 0]) (hgx : Off g (rowA a bs) gx) (hgc : Box w gc [.pointer (some ⟨g, 0, none⟩)]) (hgn : gc ≠ g ∧ gc ≠ gx) :
    Calls Try.prog 94 #[.pointer (some ⟨gx, 0, none⟩), .pointer (some ⟨gc, 0, none⟩)] w (RetT w g gx 7 a c bs (wSesP bs p) (fun v w' => Box w' gx (cellsWSes v))) := by
  have HP := Lib.hid (show wSesP bs p = bindP (numP bs p) fun v0 p => bindP (numP bs p) fun v1 p => bindP (wAnsP bs p) fun v2 p => .ok ((⟨v0, v1, v2⟩ : WSes), p) from rfl)
  have HGC := Lib.hid hgc
  have HC := Lib.hid h
  have HX := Lib.hid hx
  have HT := Lib.hid (Turn.refl g gx w)
  clear h hx hgc
  go_enter Try.func94, Try.ntmps94
  have yg := HGC.out.cell (j := 0) rfl
  go_upto_region 0 with (fail)
  go_still_tail 4, (by kernel_rfl)
  have hbd : Below w.heap.size w w.drew := (Below.refl _ _).drew
  have HCD := Lib.hid (HC.out.below hbd)
  have HXD := Lib.hid (HX.out.next (by simp) hbd)
  have HTD := Lib.hid (Turn.next HT.out (Turn.below hbd))
  have HGD := Lib.hid (HGC.out.next (by simp) hbd)
  clear HC HX HT HGC hbd yg
  have HC := HCD
  have HX := HXD
  have HT := HTD
  have HGC := HGD
  clear HCD HXD HTD HGD
  go_wp2_with (go_at_call 79; ((with_reducible refine (number_t g c _ gx 0 a bs _ _ HC.out hl HX.out hgx (by simp)).mono ?_); rintro e w1 ⟨ht, ⟨v, q, hr, rfl, hc, hb⟩ | ⟨f, hr, rfl, hb⟩⟩ <;> replace HGC := Lib.hid (HGC.out.keep (by simp) ht (by have := HGC.out.lt (by simp); have := hgn; omega)) <;> replace HT := Lib.hid (Turn.next HT.out ht) <;> first | (replace HP := Lib.hid (step_ok HP.out hr); replace HC := Lib.hid hc; replace HX := Lib.hid hb; clear ht hr hc hb) | (have HB := Lib.hid hb; have HPE := Lib.hid (step_bad HP.out hr); clear ht hr hb)))
  · have yg := HGC.out.cell (j := 0) rfl
    go_upto_region 1 with (fail)
    go_still_tail 4, (by kernel_rfl)
    have hbd : Below w1.heap.size w1 w1.drew := (Below.refl _ _).drew
    have HCD := Lib.hid (HC.out.below hbd)
    have HXD := Lib.hid (HX.out.next (by simp) hbd)
    have HTD := Lib.hid (Turn.next HT.out (Turn.below hbd))
    have HGD := Lib.hid (HGC.out.next (by simp) hbd)
    clear HC HX HT HGC hbd yg
    have HC := HCD
    have HX := HXD
    have HT := HTD
    have HGC := HGD
    clear HCD HXD HTD HGD
    go_wp2_with (go_at_call 79; ((with_reducible refine (number_t g c _ gx 1 a bs _ _ HC.out hl HX.out hgx (by simp)).mono ?_); rintro e w1 ⟨ht, ⟨v, q, hr, rfl, hc, hb⟩ | ⟨f, hr, rfl, hb⟩⟩ <;> replace HGC := Lib.hid (HGC.out.keep (by simp) ht (by have := HGC.out.lt (by simp); have := hgn; omega)) <;> replace HT := Lib.hid (Turn.next HT.out ht) <;> first | (replace HP := Lib.hid (step_ok HP.out hr); replace HC := Lib.hid hc; replace HX := Lib.hid hb; clear ht hr hc hb) | (have HB := Lib.hid hb; have HPE := Lib.hid (step_bad HP.out hr); clear ht hr hb)))
    · have yg := HGC.out.cell (j := 0) rfl
      go_upto_region 2 with (fail)
      go_still_tail 4, (by kernel_rfl)
      have hbd : Below w1.heap.size w1 w1.drew := (Below.refl _ _).drew
      have HCD := Lib.hid (HC.out.below hbd)
      have HXD := Lib.hid (HX.out.next (by simp) hbd)
      have HTD := Lib.hid (Turn.next HT.out (Turn.below hbd))
      have HGD := Lib.hid (HGC.out.next (by simp) hbd)
      clear HC HX HT HGC hbd yg
      have HC := HCD
      have HX := HXD
      have HT := HTD
      have HGC := HGD
      clear HCD HXD HTD HGD
      go_wp2_with (go_at_call 59; ((with_reducible refine (answer_t g c _ gx 2 a bs _ 0 _ HC.out hl HX.out hgx (by simp) (by simp)).mono ?_); rintro e w1 ⟨ht, ⟨v, q, hr, rfl, hc, hb⟩ | ⟨f, hr, rfl, hb⟩⟩ <;> replace HGC := Lib.hid (HGC.out.keep (by simp) ht (by have := HGC.out.lt (by simp); have := hgn; omega)) <;> replace HT := Lib.hid (Turn.next HT.out ht) <;> first | (replace HP := Lib.hid (step_ok HP.out hr); replace HC := Lib.hid hc; replace HX := Lib.hid hb; clear ht hr hc hb) | (have HB := Lib.hid hb; have HPE := Lib.hid (step_bad HP.out hr); clear ht hr hb)))
      · (first | go_end0 | refine bodyPost_ret (results_none rfl _ _ _) rfl ?_)
        exact ⟨HT.out, .inl ⟨_, _, HP.out, rfl, HC.out, HX.out⟩⟩
      · exact ⟨rfl, HT.out, .inr ⟨_, HPE.out, rfl, HB.out⟩⟩
    · exact ⟨rfl, HT.out, .inr ⟨_, HPE.out, rfl, HB.out⟩⟩
  · exact ⟨rfl, HT.out, .inr ⟨_, HPE.out, rfl, HB.out⟩⟩
set_option maxHeartbeats 8000000 in
theorem closses_w (D g gx gc c : Nat) (a : Option Addr) (bs : List UInt8) (x : WSes) (w : World) (h : Cw w D g a c bs) (hD : D ≤ w.heap.size) (hx : Box w gx (cellsWSes x)) (hgx : gx ≠ g) (hxa : ∀ o s, a ≠ some ⟨gx, o, s⟩) (hgc : Box w gc [.pointer (some ⟨g, 0, none⟩)]) (hgcg : gc ≠ g) (hgca : ∀ o s, a ≠ some ⟨gc, o, s⟩) (hn : bs.length ≤ 3000000) :
    Calls Try.prog 94 #[.pointer (some ⟨gx, 0, none⟩), .pointer (some ⟨gc, 0, none⟩)] w (RetCw w D g a (bs ++ encWSes x)) := by
  obtain ⟨client, number, ⟨ae, arate, aburst, alease, asize⟩⟩ := x
  have HG := Lib.hid (Grew.refl g a w)
  have HC := Lib.hid h
  have HX : Hid (Box w gx [.int .i64 client, .int .i64 number, .int .i64 ae, .int .i64 arate, .int .i64 aburst, .int .i64 alease, .int .i64 asize]) := Lib.hid hx
  have HO := Lib.hid (And.intro hgx (And.intro (hx.lt (by simp)) hxa))
  have HGG := Lib.hid (And.intro hgc (And.intro hgcg hgca))
  clear h hx hgx hxa hgc hgcg hgca
  go_enter Try.func94, Try.ntmps94
  have yg := (HGG.out.1.grew (by simp) HG.out HGG.out.2.1 HGG.out.2.2).cell (j := 0) rfl
  go_upto_region 0 with (fail)
  go_still_tail 4, (by kernel_rfl)
  clear yg
  have HCD := Lib.hid (HC.out.below (Below.refl _ _).drew)
  have HXD := Lib.hid (HX.out.next (by simp) (Below.refl _ _).drew)
  have HGD := Lib.hid (HG.out.next (Below.refl _ _).drew)
  clear HC HX HG
  have HC := HCD
  have HX := HXD
  have HG := HGD
  clear HCD HXD HGD
  go_wp2_with (go_at_call 79; ((with_reducible refine (number_w D g gx 0 _ _ _ client _ HC.out (Nat.le_trans hD HG.out.size) (HX.out.cell (j := 0) (by simp)) HO.out.1 (HG.out.off HO.out.2.1 HO.out.2.2) (by first | omega | (simp only [List.length_append, be8_length, List.length_cons, List.length_nil]; omega))).mono ?_); rintro en w1 ⟨a1, c1, rfl, hcw1, hgr1⟩; replace HX := Lib.hid (HX.out.grew (by simp) hgr1 HO.out.1 (HG.out.off HO.out.2.1 HO.out.2.2)); replace HG := Lib.hid (HG.out.trans hgr1); replace HC := Lib.hid hcw1; clear hcw1 hgr1))
  have yg := (HGG.out.1.grew (by simp) HG.out HGG.out.2.1 HGG.out.2.2).cell (j := 0) rfl
  go_upto_region 1 with (fail)
  go_still_tail 4, (by kernel_rfl)
  clear yg
  have HCD := Lib.hid (HC.out.below (Below.refl _ _).drew)
  have HXD := Lib.hid (HX.out.next (by simp) (Below.refl _ _).drew)
  have HGD := Lib.hid (HG.out.next (Below.refl _ _).drew)
  clear HC HX HG
  have HC := HCD
  have HX := HXD
  have HG := HGD
  clear HCD HXD HGD
  go_wp2_with (go_at_call 79; ((with_reducible refine (number_w D g gx 1 _ _ _ number _ HC.out (Nat.le_trans hD HG.out.size) (HX.out.cell (j := 1) (by simp)) HO.out.1 (HG.out.off HO.out.2.1 HO.out.2.2) (by first | omega | (simp only [List.length_append, be8_length, List.length_cons, List.length_nil]; omega))).mono ?_); rintro en w1 ⟨a1, c1, rfl, hcw1, hgr1⟩; replace HX := Lib.hid (HX.out.grew (by simp) hgr1 HO.out.1 (HG.out.off HO.out.2.1 HO.out.2.2)); replace HG := Lib.hid (HG.out.trans hgr1); replace HC := Lib.hid hcw1; clear hcw1 hgr1))
  have yg := (HGG.out.1.grew (by simp) HG.out HGG.out.2.1 HGG.out.2.2).cell (j := 0) rfl
  go_upto_region 2 with (fail)
  go_still_tail 4, (by kernel_rfl)
  clear yg
  have HCD := Lib.hid (HC.out.below (Below.refl _ _).drew)
  have HXD := Lib.hid (HX.out.next (by simp) (Below.refl _ _).drew)
  have HGD := Lib.hid (HG.out.next (Below.refl _ _).drew)
  clear HC HX HG
  have HC := HCD
  have HX := HXD
  have HG := HGD
  clear HCD HXD HGD
  go_wp2_with (go_at_call 59; ((with_reducible refine (answer_wo D g gx 2 _ _ _ _ ae arate aburst alease asize _ HC.out (Nat.le_trans hD HG.out.size) HX.out (by simp) (by simp) (by simp) (by simp) (by simp) HO.out.1 (HG.out.off HO.out.2.1 HO.out.2.2) (by first | omega | (simp only [List.length_append, be8_length, List.length_cons, List.length_nil]; omega))).mono ?_); rintro en w1 ⟨a1, c1, rfl, hcw1, hgr1⟩; replace HX := Lib.hid (HX.out.grew (by simp) hgr1 HO.out.1 (HG.out.off HO.out.2.1 HO.out.2.2)); replace HG := Lib.hid (HG.out.trans hgr1); replace HC := Lib.hid hcw1; clear hcw1 hgr1))
  (first | go_end0 | refine bodyPost_ret (results_none rfl _ _ _) rfl ?_)
  refine ⟨a1, c1, rfl, ?_, HG.out⟩
  have hc := HC.out
  simp only [List.append_assoc] at hc
  unfold encWSes
  simp only [List.append_assoc]
  exact hc
end Go.Proofs.Ytlckgnemmffdkaa
