import Derived.Test.YtlckgnemmffdkaaPackWireMessage3
set_option linter.unusedVariables false
set_option linter.unusedSimpArgs false
/- Bytes as an answer: the deferred closure. -/
namespace Go.Proofs.Ytlckgnemmffdkaa
open Go.ChangeShapes Go.WideShapes Go.ChangeAt Go.RowKit
set_option maxRecDepth 100000

/-- What the deferred closure leaves of a panic that tells a byte. -/
def Caught (gx ga ge f : Nat) (zs : List Value) (w w' : World) : Prop := Keep (fun k => k = gx ∨ k = ga ∨ k = ge ∨ w.heap.size ≤ k) w w' ∧ Box w' gx zs ∧ Box w' ga [.int .i64 f] ∧ Box w' ge [.int .i64 50]
def RetCaught (gx ga ge f : Nat) (zs : List Value) (w : World) (e : Ending) (u' : FrameMode) (w' : World) : Prop := e = .returned (.tuple #[]) ∧ u' = .panicking [{ v := .iface 136 (.agg #[.int .i64 f]), recovered := true }] ∧ Caught gx ga ge f zs w w'
theorem caught_of {gx ga ge f : Nat} {cs zs : List Value} {w : World} {o1 o2 : Obj} (hx : Box w gx cs) (hl : cs.length = zs.length) (h0 : 0 < zs.length) (ha : Box w ga [.int .i64 0]) (he : Box w ge [.int .i64 0]) (h1 : gx ≠ ga) (h2 : gx ≠ ge) (h3 : ga ≠ ge) :
    Caught gx ga ge f zs w ((((((w.setCells gx 0 zs).setCell ⟨ga, 0, none⟩ (.int .i64 f)).setCell ⟨ge, 0, none⟩ (.int .i64 50)).alloc o1).alloc o2).drew) := by
  have hw : Below ((((w.setCells gx 0 zs).setCell ⟨ga, 0, none⟩ (.int .i64 f)).setCell ⟨ge, 0, none⟩ (.int .i64 50))).heap.size (((w.setCells gx 0 zs).setCell ⟨ga, 0, none⟩ (.int .i64 f)).setCell ⟨ge, 0, none⟩ (.int .i64 50)) ((((((w.setCells gx 0 zs).setCell ⟨ga, 0, none⟩ (.int .i64 f)).setCell ⟨ge, 0, none⟩ (.int .i64 50)).alloc o1).alloc o2).drew) := (mid_alloc' (mid_alloc' (Below.refl _ _))).drew
  refine ⟨?_, ?_, ?_, ?_⟩
  · exact ((((Keep.refl _ w).sets (.inl rfl) zs 0).set _ _ (.inr (.inl rfl))).set _ _ (.inr (.inr (.inl rfl)))).trans ((Keep.of (S := fun k => (((w.setCells gx 0 zs).setCell ⟨ga, 0, none⟩ (.int .i64 f)).setCell ⟨ge, 0, none⟩ (.int .i64 50)).heap.size ≤ k) hw).mono (fun k hk e => absurd e (by omega)))
  · exact ((((hx.whole hl.symm).far (fun e => h1 e.symm) _).far (fun e => h2 e.symm) _)).next h0 hw
  · exact ((((ha.block (setCells_keep gx zs 0 w ga (fun e => h1 e.symm))).set (i := 0) (by simp) _).far (fun e => h3 e.symm) _)).next (by simp) hw
  · exact ((((he.block (setCells_keep gx zs 0 w ge (fun e => h2 e.symm))).far (p := ⟨ga, 0, none⟩) h3 _).set (i := 0) (by simp) _)).next (by simp) hw
set_option maxHeartbeats 2000000 in
theorem catch_ans (gx ga ge f : Nat) (cs : List Value) (w : World) (hx : Box w gx cs) (hl : cs.length = 5) (ha : Box w ga [.int .i64 0]) (he : Box w ge [.int .i64 0]) (h1 : gx ≠ ga) (h2 : gx ≠ ge) (h3 : ga ≠ ge) :
    CallsD Try.prog 87 #[.pointer (some ⟨gx, 0, none⟩), .pointer (some ⟨ga, 0, none⟩), .pointer (some ⟨ge, 0, none⟩)] (.panicking [{ v := .iface 136 (.agg #[.int .i64 f]), recovered := false }]) w (RetCaught gx ga ge f [.int .i64 0, .int .i64 0, .int .i64 0, .int .i64 0, .int .i64 0] w) := by
  have hta : ∀ w, (Instr.typeAssert (.iface 136 (.agg #[.int .i64 f])) 20 136 true).run Try.prog w = .ok (.tuple #[.agg #[.int .i64 f], .bool true]) w := fun _ => by kernel_rfl
  refine callsD_of_wpS Try.func87 rfl fun c₀ cs₀ hu => ?_
  apply wpS_seq
  apply wpS_region
  generalize hQ : Exit.thenS _ _ = Q0
  simp [wpOpsS, go_sem, recoverD, hu, Try.ntmps87, Array.replicate, List.replicate]
  subst hQ
  refine (wpS_of_wp ?_ : Code.wpS _ _ _ _ _ _)
  clear hu
  generalize hPOST : (fun e a' w' => bodyPostS _ _ _ _ _ _ _ _ _) = POST
  have HP := Lib.hid hPOST
  clear hPOST
  obtain ⟨c0, c1, c2, c3, c4, rfl⟩ : ∃ c0 c1 c2 c3 c4, cs = [c0, c1, c2, c3, c4] := by
    match cs, hl with
    | [c0, c1, c2, c3, c4], _ => exact ⟨c0, c1, c2, c3, c4, rfl⟩
  have x0 := hx.cell (j := 0) rfl
  have x1 := hx.cell (j := 1) rfl
  have x2 := hx.cell (j := 2) rfl
  have x3 := hx.cell (j := 3) rfl
  have x4 := hx.cell (j := 4) rfl
  have z0 := hx.froz (j := 0) (by simp)
  have z1 := hx.froz (j := 1) (by simp)
  have z2 := hx.froz (j := 2) (by simp)
  have z3 := hx.froz (j := 3) (by simp)
  have z4 := hx.froz (j := 4) (by simp)
  have a0 := ha.cell (j := 0) rfl
  have b0 := ha.froz (j := 0) (by simp)
  have e0 := he.cell (j := 0) rfl
  have f0 := he.froz (j := 0) (by simp)
  have l1 := hx.lt (by simp)
  have l2 := ha.lt (by simp)
  have l3 := he.lt (by simp)
  have HX := Lib.hid hx
  have HA := Lib.hid ha
  have HE := Lib.hid he
  clear hx ha he hl
  go_wp2
  go_region
  rw [← HP.out]
  exact ⟨rfl, _, rfl, _, results_none rfl _ _ _, rfl, rfl, caught_of HX.out rfl (by simp) HA.out HE.out h1 h2 h3⟩
set_option maxHeartbeats 1000000 in
theorem idle_ans (gx ga ge : Nat) (w : World) :
    CallsD Try.prog 87 #[.pointer (some ⟨gx, 0, none⟩), .pointer (some ⟨ga, 0, none⟩), .pointer (some ⟨ge, 0, none⟩)] .returning w fun e u' w' => e = .returned (.tuple #[]) ∧ u' = .returning ∧ w' = w := by
  refine callsD_of_wpS Try.func87 rfl fun c₀ cs₀ hu => ?_
  apply wpS_seq
  apply wpS_region
  generalize hQ : Exit.thenS _ _ = Q0
  simp [wpOpsS, go_sem, recoverD, hu, Try.ntmps87, Array.replicate, List.replicate]
  subst hQ
  refine (wpS_of_wp ?_ : Code.wpS _ _ _ _ _ _)
  have hc : c₀ :: cs₀ = { c₀ with mode := .returning } :: cs₀ := by rw [← hu]
  have HC := Lib.hid hc
  clear hu hc
  generalize hPOST : (fun e a' w' => bodyPostS _ _ _ _ _ _ _ _ _) = POST
  have HP := Lib.hid hPOST
  clear hPOST
  go_wp2
  rw [← HP.out]
  exact ⟨rfl, _, HC.out, _, results_none rfl _ _ _, rfl, rfl, rfl⟩
def ansV (x : WAns) : Value := .agg #[.int .i64 x.e, .int .i64 x.rate, .int .i64 x.burst, .int .i64 x.lease, .int .i64 x.size]
def ans0 : WAns := ⟨0, 0, 0, 0, 0⟩
/-- A thing read, or the first byte that cannot stand there. -/
def RetRdA (w : World) (r : WAns × Nat × Int) (e : Ending) (w' : World) : Prop := e = .returned (.tuple #[ansV r.1, .int .i64 r.2.1, .int .i64 r.2.2]) ∧ Below w.heap.size w w'
set_option maxHeartbeats 2000000 in
theorem read_ans (a : Option Addr) (c : Nat) (bs : List UInt8) (w : World) (hr : RowB w a bs) (hc : bs.length ≤ c) (hl : bs.length ≤ 1048576) :
    Calls Try.prog 58 #[.slice a bs.length c, .func (.func 59) #[] #[]] w (RetRdA w (readP ans0 wAnsP bs)) := by
  have hmf : ∀ (fn : Fn) (first cap : Array Value) (w : World), (Instr.makeFunc fn first cap).run Try.prog w = .ok (.func fn first cap) w := fun _ _ _ _ => rfl
  obtain ⟨W, hW⟩ : ∃ W, W = (((w.alloc (.cells #[.int .i64 0, .int .i64 0, .int .i64 0, .int .i64 0, .int .i64 0] 42)).alloc (.cells #[.int .i64 0] 3)).alloc (.cells #[.int .i64 0] 24)).alloc (.cells #[.slice a bs.length c, .int .i64 0, .bool true] 134) := ⟨_, rfl⟩
  have hS : W.heap.size = w.heap.size + 4 := by rw [hW]; simp
  have hBX : Box W w.heap.size [.int .i64 0, .int .i64 0, .int .i64 0, .int .i64 0, .int .i64 0] := by rw [hW]; exact Box.of_alloc (mid_alloc' (mid_alloc' (mid_alloc' (Below.refl _ _))))
  have hBA : Box W (w.heap.size + 1) [.int .i64 0] := by rw [hW]; exact Box.of_alloc1 (mid_alloc' (mid_alloc' (Below.refl _ _)))
  have hBE : Box W (w.heap.size + 1 + 1) [.int .i64 0] := by rw [hW]; exact Box.of_alloc2 (mid_alloc' (Below.refl _ _))
  have hBC : Box W (w.heap.size + 3) [.slice a bs.length c, .int .i64 (0 : Nat), .bool true] := by
    have h1 : Box W (((((w.alloc (.cells #[.int .i64 0, .int .i64 0, .int .i64 0, .int .i64 0, .int .i64 0] 42)).alloc (.cells #[.int .i64 0] 3)).alloc (.cells #[.int .i64 0] 24))).heap.size) [.slice a bs.length c, .int .i64 0, .bool true] := by rw [hW]; exact Box.of_alloc (Below.refl _ _)
    simpa using h1
  have hB : Below w.heap.size w W := by rw [hW]; exact mid_alloc' (mid_alloc' (mid_alloc' (mid_alloc' (Below.refl _ _))))
  have hrow := hr.below hB
  have hlow : ∀ b o s, rowA a bs = some ⟨b, o, s⟩ → b < w.heap.size := fun b o s h => by
    unfold rowA at h
    split at h
    · cases h
    · rename_i h0
      rcases hr with h1 | ⟨b1, o1, rfl, h1⟩
      · exact absurd (by simpa using h1) h0
      · have := Row.lt (.inr ⟨b1, o1, rfl, h1⟩) (by simpa using h0)
        simp only [Option.some.injEq, Addr.mk.injEq] at h
        omega
  have hcr : Cr W (w.heap.size + 3) a c bs 0 := ⟨hBC, hrow, by omega, hc, fun b o s h => by have := hlow b o s h; omega⟩
  have hoff : Off (w.heap.size + 3) (rowA a bs) w.heap.size := ⟨by omega, fun o s h => by have := hlow _ o s h; omega⟩
  have HAN := Lib.hid (answer_t (w.heap.size + 3) c 0 w.heap.size 0 a bs _ 0 W hcr (by omega) hBX hoff (by simp) rfl)
  have HBA := Lib.hid hBA
  have HBE := Lib.hid hBE
  have HB := Lib.hid hB
  have HS := Lib.hid hS
  clear hBX hBA hBE hBC hrow hcr hoff hlow hr hS hB
  rw [hW] at HAN
  have HW := Lib.hid hW
  clear hW
  go_enter_defers Try.func58, Try.ntmps58
  go_wp2_with (go_at_call 59; ((with_reducible refine HAN.out.mono ?_); rw [← HW.out]; rintro en w1 ⟨ht, ⟨v, q, hr, rfl, hc, hb⟩ | ⟨f, hr, rfl, hb⟩⟩ <;> have hA := HBA.out.keep (by simp) ht (by have := HS.out; omega) <;> have hE := HBE.out.keep (by simp) ht (by have := HS.out; omega) <;> have HT1 := Lib.hid ht <;> have HR := Lib.hid hr <;> have a0 := hA.cell (j := 0) rfl <;> have b0 := hA.froz (j := 0) (by simp) <;> have e0 := hE.cell (j := 0) rfl <;> have f0 := hE.froz (j := 0) (by simp) <;> have HA1 := Lib.hid hA <;> have HE1 := Lib.hid hE <;> clear ht hr hA hE; all_goals (first | (replace hb : Box w1 w.heap.size [.int .i64 v.e, .int .i64 v.rate, .int .i64 v.burst, .int .i64 v.lease, .int .i64 v.size] := hb; have x0 := hb.cell (j := 0) rfl; have x1 := hb.cell (j := 1) rfl; have x2 := hb.cell (j := 2) rfl; have x3 := hb.cell (j := 3) rfl; have x4 := hb.cell (j := 4) rfl; have z0 := hb.froz (j := 0) (by simp); have z1 := hb.froz (j := 1) (by simp); have z2 := hb.froz (j := 2) (by simp); have z3 := hb.froz (j := 3) (by simp); have z4 := hb.froz (j := 4) (by simp); have HC1 := Lib.hid hc; have HB1 := Lib.hid hb; have r1 := hc.box.cell (j := 1) rfl; clear hc hb) | skip)))
  · -- bytes are left
    refine leaves_cons (f := 87) (args := #[.pointer (some ⟨w.heap.size, 0, none⟩), .pointer (some ⟨w.heap.size + 1, 0, none⟩), .pointer (some ⟨w.heap.size + 1 + 1, 0, none⟩)]) (by simp) (by simp [go_sem]) ?_
    refine (catch_ans _ _ _ q _ _ HB1.out rfl HA1.out HE1.out (by omega) (by omega) (by omega)).mono ?_
    rintro e u' w2 ⟨rfl, rfl, hk, hx2, ha2, he2⟩
    have HBW : Below w.heap.size w w2 := HB.out.trans (((HT1.out.mono (S' := fun k => w.heap.size ≤ k) (fun k _ e => by have := HS.out; omega)).trans (hk.mono (S' := fun k => w.heap.size ≤ k) (fun k _ e => by have := HT1.out.size; have := HS.out; omega))).bel HB.out.size (fun k e => e))
    have c0 := hx2.cell (j := 0) rfl
    have c1 := hx2.cell (j := 1) rfl
    have c2 := hx2.cell (j := 2) rfl
    have c3 := hx2.cell (j := 3) rfl
    have c4 := hx2.cell (j := 4) rfl
    have c5 := ha2.cell (j := 0) rfl
    have c6 := he2.cell (j := 0) rfl
    simp [Leaves, settle, results, Try.results58, go_sem, c0, c1, c2, c3, c4, c5, c6]
    refine ⟨?_, HBW⟩
    unfold readP
    rw [if_neg (by omega), HR.out]
    show _ = Ending.returned (.tuple #[ansV (if _ then _ else _ : WAns × Nat × Int).1, .int .i64 (if _ then _ else _ : WAns × Nat × Int).2.1, .int .i64 (if _ then _ else _ : WAns × Nat × Int).2.2])
    rw [if_pos (by omega)]; rfl
  · -- all is well
    obtain ⟨w3, hw3⟩ : ∃ w3, w3 = (((w1.setCells w.heap.size 0 [.int .i64 v.e, .int .i64 v.rate, .int .i64 v.burst, .int .i64 v.lease, .int .i64 v.size]).setCell ⟨w.heap.size + 1, 0, none⟩ (.int .i64 0)).setCell ⟨w.heap.size + 1 + 1, 0, none⟩ (.int .i64 0)) := ⟨_, rfl⟩
    have hk : Keep (fun k => w.heap.size ≤ k) w1 w3 := by rw [hw3]; exact (((Keep.refl _ w1).sets (Nat.le_refl _) _ 0).set _ _ (by show w.heap.size ≤ w.heap.size + 1; omega)).set _ _ (by show w.heap.size ≤ w.heap.size + 1 + 1; omega)
    have hx2 : Box w3 w.heap.size [.int .i64 v.e, .int .i64 v.rate, .int .i64 v.burst, .int .i64 v.lease, .int .i64 v.size] := by rw [hw3]; exact ((HB1.out.whole rfl).far (by show w.heap.size + 1 ≠ _; omega) _).far (by show w.heap.size + 1 + 1 ≠ _; omega) _
    have ha2 : Box w3 (w.heap.size + 1) [.int .i64 0] := by rw [hw3]; exact ((HA1.out.block (setCells_keep _ _ _ _ _ (by omega))).set (i := 0) (by simp) _).far (by show w.heap.size + 1 + 1 ≠ _; omega) _
    have he2 : Box w3 (w.heap.size + 1 + 1) [.int .i64 0] := by rw [hw3]; exact ((HE1.out.block (setCells_keep _ _ _ _ _ (by omega))).far (p := ⟨w.heap.size + 1, 0, none⟩) (by show w.heap.size + 1 ≠ _; omega) _).set (i := 0) (by simp) _
    show bodyPostD _ _ _ _ _ (((w1.setCells w.heap.size 0 [.int .i64 v.e, .int .i64 v.rate, .int .i64 v.burst, .int .i64 v.lease, .int .i64 v.size]).setCell ⟨w.heap.size + 1, 0, none⟩ (.int .i64 0)).setCell ⟨w.heap.size + 1 + 1, 0, none⟩ (.int .i64 0))
    rw [← hw3]
    refine leaves_cons (f := 87) (args := #[.pointer (some ⟨w.heap.size, 0, none⟩), .pointer (some ⟨w.heap.size + 1, 0, none⟩), .pointer (some ⟨w.heap.size + 1 + 1, 0, none⟩)]) (by simp) (by simp [go_sem]) ?_
    refine (idle_ans _ _ _ _).mono ?_
    rintro e u' w2 ⟨rfl, rfl, rfl⟩
    have HBW : Below w.heap.size w w2 := HB.out.trans (((HT1.out.mono (S' := fun k => w.heap.size ≤ k) (fun k _ e => by have := HS.out; omega)).trans hk).bel HB.out.size (fun k e => e))
    have c0 := hx2.cell (j := 0) rfl
    have c1 := hx2.cell (j := 1) rfl
    have c2 := hx2.cell (j := 2) rfl
    have c3 := hx2.cell (j := 3) rfl
    have c4 := hx2.cell (j := 4) rfl
    have c5 := ha2.cell (j := 0) rfl
    have c6 := he2.cell (j := 0) rfl
    simp [Leaves, settle, results, Try.results58, go_sem, c0, c1, c2, c3, c4, c5, c6]
    refine ⟨?_, HBW⟩
    unfold readP
    rw [if_neg (by omega), HR.out]
    show _ = Ending.returned (.tuple #[ansV (if _ then _ else _ : WAns × Nat × Int).1, .int .i64 (if _ then _ else _ : WAns × Nat × Int).2.1, .int .i64 (if _ then _ else _ : WAns × Nat × Int).2.2])
    rw [if_neg (by omega)]; rfl
  · -- a byte that cannot stand there
    obtain ⟨cs, hl5, hbx⟩ := hb
    refine leaves_cons (f := 87) (args := #[.pointer (some ⟨w.heap.size, 0, none⟩), .pointer (some ⟨w.heap.size + 1, 0, none⟩), .pointer (some ⟨w.heap.size + 1 + 1, 0, none⟩)]) (by simp) (by simp [go_sem]) ?_
    refine (catch_ans _ _ _ f _ _ hbx hl5 HA1.out HE1.out (by omega) (by omega) (by omega)).mono ?_
    rintro e u' w2 ⟨rfl, rfl, hk, hx2, ha2, he2⟩
    have HBW : Below w.heap.size w w2 := HB.out.trans (((HT1.out.mono (S' := fun k => w.heap.size ≤ k) (fun k _ e => by have := HS.out; omega)).trans (hk.mono (S' := fun k => w.heap.size ≤ k) (fun k _ e => by have := HT1.out.size; have := HS.out; omega))).bel HB.out.size (fun k e => e))
    have c0 := hx2.cell (j := 0) rfl
    have c1 := hx2.cell (j := 1) rfl
    have c2 := hx2.cell (j := 2) rfl
    have c3 := hx2.cell (j := 3) rfl
    have c4 := hx2.cell (j := 4) rfl
    have c5 := ha2.cell (j := 0) rfl
    have c6 := he2.cell (j := 0) rfl
    simp [Leaves, settle, results, Try.results58, go_sem, c0, c1, c2, c3, c4, c5, c6]
    refine ⟨?_, HBW⟩
    unfold readP
    rw [if_neg (by omega), HR.out]; rfl
set_option maxHeartbeats 1000000 in
theorem readanswer_any (a : Option Addr) (c : Nat) (bs : List UInt8) (w : World) (hr : RowB w a bs) (hc : bs.length ≤ c) (hl : bs.length ≤ 1048576) :
    Calls Try.prog 21 #[.slice a bs.length c] w (RetRdA w (readP ans0 wAnsP bs)) := by
  have hB : Below w.heap.size w (w.alloc (.cells #[.int .i64 0, .int .i64 0, .int .i64 0, .int .i64 0, .int .i64 0] 42)) := mid_alloc' (Below.refl _ _)
  have HRD := Lib.hid (read_ans a c bs (w.alloc (.cells #[.int .i64 0, .int .i64 0, .int .i64 0, .int .i64 0, .int .i64 0] 42)) (hr.below hB) hc hl)
  have HB := Lib.hid hB
  clear hB hr
  generalize readP ans0 wAnsP bs = r at HRD ⊢
  obtain ⟨⟨x0, x1, x2, x3, x4⟩, at', en⟩ := r
  go_enter Try.func21, Try.ntmps21
  go_wp2_with (go_at_call 58; ((with_reducible refine HRD.out.mono ?_); rintro e w1 ⟨rfl, hb1⟩; have HT := Lib.hid (Box.of_alloc hb1); have HB1 := Lib.hid (HB.out.trans (hb1.mono HB.out.size)); have y0 := HT.out.cell (j := 0) rfl; have y1 := HT.out.cell (j := 1) rfl; have y2 := HT.out.cell (j := 2) rfl; have y3 := HT.out.cell (j := 3) rfl; have y4 := HT.out.cell (j := 4) rfl; have z0 := HT.out.froz (j := 0) (by simp); have z1 := HT.out.froz (j := 1) (by simp); have z2 := HT.out.froz (j := 2) (by simp); have z3 := HT.out.froz (j := 3) (by simp); have z4 := HT.out.froz (j := 4) (by simp); clear hb1; unfold ansV))
  obtain ⟨w3, hw3⟩ : ∃ w3, w3 = w1.setCells w.heap.size 0 [.int .i64 x0, .int .i64 x1, .int .i64 x2, .int .i64 x3, .int .i64 x4] := ⟨_, rfl⟩
  have hk : Keep (fun k => w.heap.size ≤ k) w1 w3 := by rw [hw3]; exact (Keep.refl _ w1).sets (Nat.le_refl _) _ 0
  have hx2 : Box w3 w.heap.size [.int .i64 x0, .int .i64 x1, .int .i64 x2, .int .i64 x3, .int .i64 x4] := by rw [hw3]; exact HT.out.whole rfl
  show bodyPost _ _ _ _ _ (w1.setCells w.heap.size 0 [.int .i64 x0, .int .i64 x1, .int .i64 x2, .int .i64 x3, .int .i64 x4])
  rw [← hw3]
  have c0 := hx2.cell (j := 0) rfl
  have c1 := hx2.cell (j := 1) rfl
  have c2 := hx2.cell (j := 2) rfl
  have c3 := hx2.cell (j := 3) rfl
  have c4 := hx2.cell (j := 4) rfl
  refine bodyPost_ret (v := .tuple #[.agg #[.int .i64 x0, .int .i64 x1, .int .i64 x2, .int .i64 x3, .int .i64 x4], .int .i64 at', .int .i64 en]) (by simp [results, Try.results21, go_sem, c0, c1, c2, c3, c4]) rfl ⟨rfl, HB1.out.trans (hk.bel HB1.out.size (fun k e => e))⟩
end Go.Proofs.Ytlckgnemmffdkaa
