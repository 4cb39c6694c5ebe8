import Derived.Test.YtlckgnemmffdkaaPackWireMessage3
set_option linter.unusedVariables false
set_option linter.unusedSimpArgs false
/- The document's writer: an entry, an answer. (printed by gen_wirrefw.py) -/
namespace Go.Proofs.Ytlckgnemmffdkaa
open Go.ChangeShapes Go.WideShapes Go.ChangeAt Go.RowKit
set_option maxRecDepth 100000

/-- The variable just laid: the bytes' own block is another. -/
theorem Cb.new {w : World} {D c : Nat} {a : Option Addr} {bs : List UInt8} (h : Cb w D a c bs) : ∀ o s, a ≠ some ⟨w.heap.size, o, s⟩ := fun o s e => by have := (h.far _ o s e).2; omega
set_option maxHeartbeats 2000000 in
theorem entry_rf (D c : Nat) (a : Option Addr) (bs : List UInt8) (x : WEnt) (p : PEnt) (w : World) (h : Cb w D a c bs) (hD : D ≤ w.heap.size) (hp : LowEnt D w x p) (hok : OkEnt x) (hn : bs.length ≤ 3000000) :
    Calls Try.prog 50 #[.slice a bs.length c, valEnt x p] w (RetCb w D a (bs ++ encWEnt x)) := by
  have hn2 : x.data.length ≤ 1000000 := by have := hok.size; unfold encWEnt at this; simp only [List.length_append] at this; omega
  have HKB := Lib.hid (show B (kindB x.kind) = .int .u8 (x.kind % 256) by rw [B, ← kind_byte hok.kind, IntKind.wrap_u8])
  have hr := hp.row
  obtain ⟨term, kind, stamp, set', data⟩ := x
  obtain ⟨ad, k⟩ := p
  simp only at hn2 HKB hr
  unfold valEnt
  simp only
  have hba : Below w.heap.size w (w.alloc (.cells #[.int .i64 term, .int .i8 kind, .int .i64 stamp, B set', .slice ad data.length k] 32)) := (Below.refl _ _).alloc (Nat.le_refl _) _
  have HX := Lib.hid (Box.of_alloc (w := w) (cs := [.int .i64 term, .int .i8 kind, .int .i64 stamp, B set', .slice ad data.length k]) (t := 32) (Below.refl _ _))
  have HB := Lib.hid (h.below hba)
  have HBA := Lib.hid hba
  have HO := Lib.hid (And.intro (show w.heap.size < (w.alloc (.cells #[.int .i64 term, .int .i8 kind, .int .i64 stamp, B set', .slice ad data.length k] 32)).heap.size by simp) h.new)
  have HG := Lib.hid (Gro.refl a (w.alloc (.cells #[.int .i64 term, .int .i8 kind, .int .i64 stamp, B set', .slice ad data.length k] 32)))
  have HR := Lib.hid (hr.below hba)
  have HLL : Hid (bs = bs) := Lib.hid rfl
  have hDA : D ≤ (w.alloc (.cells #[.int .i64 term, .int .i8 kind, .int .i64 stamp, B set', .slice ad data.length k] 32)).heap.size := Nat.le_trans hD hba.size
  replace hD := hDA
  clear h hp hok hr hba hDA
  have y0 := HX.out.cell (j := 0) rfl
  have y1 := HX.out.cell (j := 1) rfl
  have y2 := HX.out.cell (j := 2) rfl
  have y3 := HX.out.cell (j := 3) rfl
  have y4 := HX.out.cell (j := 4) rfl
  go_enter Try.func50, Try.ntmps50
  go_wp2_with (first
    | (go_at_call 62; ((with_reducible refine (number_rl D _ _ _ _ _ HB.out (Nat.le_trans hD HG.out.size) (by omega)).mono ?_); rintro en w1 ⟨l, a1, c1, rfl, hl, hlen, hb1, hg1⟩; replace HLL := Lib.hid (hl.trans (congrArg (· ++ _) HLL.out)); clear hl; clear y0 y1 y2 y3 y4; replace HX := Lib.hid (HX.out.gro (by simp) hg1 (HG.out.off HO.out.1 HO.out.2)); replace HR := Lib.hid (HR.out.gro HB.out hg1); replace HG := Lib.hid (HG.out.trans hg1); replace HB := Lib.hid hb1; clear hb1 hg1; have y0 := HX.out.cell (j := 0) rfl; have y1 := HX.out.cell (j := 1) rfl; have y2 := HX.out.cell (j := 2) rfl; have y3 := HX.out.cell (j := 3) rfl; have y4 := HX.out.cell (j := 4) rfl))
    | (at_builtin; (refine wpList_far el_bytes rfl (.tmp 9) (.tmp 13) rfl D a1 l.length c1 (l.map B) rfl (HB.out.can.alloc _) (some ⟨w1.heap.size, 0, none⟩) 1 1 [B (kindB kind)] rfl rfl (by rw [HKB.out]; exact Row.new _ _ _ _) (by intro u hu; simp at hu; subst hu; rfl) (by omega) (by have := HG.out.size; simp; omega) (fun b o s e => ⟨(HB.out.far b o s e).1, by have := (HB.out.far b o s e).2; simp; omega⟩) ?_); intro a1 c1 w1 hcan2 hg2 hn2 hf2 hl2; have hst := Cb.step (ns := [(kindB kind)]) ((Below.refl _ _).alloc (Nat.le_refl _) _) hcan2 hg2 hn2 hf2 hl2; have hb1 := hst.1; have hg1 := hst.2; clear hst; obtain ⟨l, hl⟩ : ∃ l2, l2 = l ++ [(kindB kind)] := ⟨_, rfl⟩; rw [← hl] at hb1; have hq := congrArg List.length hl; rw [List.length_append, List.length_singleton] at hq; have hlen := Nat.le_of_eq hq; rw [← hq]; clear hq; replace HLL := Lib.hid (hl.trans (congrArg (· ++ _) HLL.out)); clear hl hcan2 hg2 hn2 hf2 hl2; clear y0 y1 y2 y3 y4; replace HX := Lib.hid (HX.out.gro (by simp) hg1 (HG.out.off HO.out.1 HO.out.2)); replace HR := Lib.hid (HR.out.gro HB.out hg1); replace HG := Lib.hid (HG.out.trans hg1); replace HB := Lib.hid hb1; clear hb1 hg1; have y0 := HX.out.cell (j := 0) rfl; have y1 := HX.out.cell (j := 1) rfl; have y2 := HX.out.cell (j := 2) rfl; have y3 := HX.out.cell (j := 3) rfl; have y4 := HX.out.cell (j := 4) rfl)
    | (at_builtin; (refine wpList_far el_bytes rfl (.tmp 19) (.tmp 22) rfl D a1 l.length c1 (l.map B) rfl (HB.out.can.alloc _) (some ⟨w1.heap.size, 0, none⟩) 1 1 [B set'] rfl rfl (by exact Row.new _ _ _ _) (by intro u hu; simp at hu; subst hu; rfl) (by omega) (by have := HG.out.size; simp; omega) (fun b o s e => ⟨(HB.out.far b o s e).1, by have := (HB.out.far b o s e).2; simp; omega⟩) ?_); intro a1 c1 w1 hcan2 hg2 hn2 hf2 hl2; have hst := Cb.step (ns := [set']) ((Below.refl _ _).alloc (Nat.le_refl _) _) hcan2 hg2 hn2 hf2 hl2; have hb1 := hst.1; have hg1 := hst.2; clear hst; obtain ⟨l, hl⟩ : ∃ l2, l2 = l ++ [set'] := ⟨_, rfl⟩; rw [← hl] at hb1; have hq := congrArg List.length hl; rw [List.length_append, List.length_singleton] at hq; have hlen := Nat.le_of_eq hq; rw [← hq]; clear hq; replace HLL := Lib.hid (hl.trans (congrArg (· ++ _) HLL.out)); clear hl hcan2 hg2 hn2 hf2 hl2; clear y0 y1 y2 y3 y4; replace HX := Lib.hid (HX.out.gro (by simp) hg1 (HG.out.off HO.out.1 HO.out.2)); replace HR := Lib.hid (HR.out.gro HB.out hg1); replace HG := Lib.hid (HG.out.trans hg1); replace HB := Lib.hid hb1; clear hb1 hg1; have y0 := HX.out.cell (j := 0) rfl; have y1 := HX.out.cell (j := 1) rfl; have y2 := HX.out.cell (j := 2) rfl; have y3 := HX.out.cell (j := 3) rfl; have y4 := HX.out.cell (j := 4) rfl)
    | (go_at_call 74; ((with_reducible refine (bytes_rl D _ data.length k _ ad _ data _ HB.out (Nat.le_trans hD HG.out.size) rfl HR.out (by omega) (by omega)).mono ?_); rintro en w1 ⟨l, a1, c1, rfl, hl, hlen, hb1, hg1⟩; replace HLL := Lib.hid (hl.trans (congrArg (· ++ _) HLL.out)); clear hl; clear y0 y1 y2 y3 y4; replace HX := Lib.hid (HX.out.gro (by simp) hg1 (HG.out.off HO.out.1 HO.out.2)); replace HR := Lib.hid (HR.out.gro HB.out hg1); replace HG := Lib.hid (HG.out.trans hg1); replace HB := Lib.hid hb1; clear hb1 hg1; have y0 := HX.out.cell (j := 0) rfl; have y1 := HX.out.cell (j := 1) rfl; have y2 := HX.out.cell (j := 2) rfl; have y3 := HX.out.cell (j := 3) rfl; have y4 := HX.out.cell (j := 4) rfl)))
  go_ret
  have hll := HLL.out
  simp only [List.append_assoc] at hll
  refine ⟨a1, c1, ?_, ?_, HG.out.pre HBA.out⟩
  · show Ending.returned (.slice a1 l.length c1) = _
    rw [hll]; rfl
  · have := HB.out
    rw [hll] at this; exact this
theorem refentry_bytes (x : WEnt) (p : PEnt) (w : World) (hs : LowEnt w.heap.size w x p) (hok : OkEnt x) :
    Calls Try.prog 17 #[valEnt x p] w (RetB w (encWEnt x)) := by
  obtain ⟨term, kind, stamp, set', data⟩ := x
  obtain ⟨ad, k⟩ := p
  have hba : Below w.heap.size w (w.alloc (.cells #[.int .i64 term, .int .i8 kind, .int .i64 stamp, B set', .slice ad data.length k] 32)) := (Below.refl _ _).alloc (Nat.le_refl _) _
  have HE : Hid (Calls Try.prog 50 #[.slice none 0 0, valEnt ⟨term, kind, stamp, set', data⟩ (ad, k)] (w.alloc (.cells #[.int .i64 term, .int .i8 kind, .int .i64 stamp, B set', .slice ad data.length k] 32)) (RetCb (w.alloc (.cells #[.int .i64 term, .int .i8 kind, .int .i64 stamp, B set', .slice ad data.length k] 32)) w.heap.size none (encWEnt ⟨term, kind, stamp, set', data⟩))) := entry_rf w.heap.size 0 none [] _ _ (w.alloc (.cells #[.int .i64 term, .int .i8 kind, .int .i64 stamp, B set', .slice ad data.length k] 32)) (Cb.nil _ _) hba.size (hs.up (Nat.le_refl _) hba) hok (by simp)
  have HBA := Lib.hid hba
  clear hba hs hok
  generalize encWEnt _ = L at HE ⊢
  unfold valEnt at HE ⊢
  simp only at HE ⊢
  go_enter Try.func17, Try.ntmps17
  go_wp2_with (go_at_call 50; ((with_reducible refine HE.out.mono ?_); rintro en w1 ⟨a1, c1, rfl, hb1, hg1⟩; have HB1 := Lib.hid hb1; have HG1 := Lib.hid hg1; clear hb1 hg1))
  go_ret
  exact ⟨a1, c1, rfl, HB1.out.can.row, HBA.out.trans (HG1.out.bel.mono HBA.out.size)⟩
set_option maxHeartbeats 2000000 in
theorem answer_rf (D c : Nat) (a : Option Addr) (bs : List UInt8) (v0 v1 v2 v3 v4 : Int) (w : World) (h : Cb w D a c bs) (hD : D ≤ w.heap.size) (hn : bs.length ≤ 3000000) :
    Calls Try.prog 65 #[.slice a bs.length c, .agg #[.int .i64 v0, .int .i64 v1, .int .i64 v2, .int .i64 v3, .int .i64 v4]] w (RetCb w D a (bs ++ encWAns ⟨v0, v1, v2, v3, v4⟩)) := by
  have hba : Below w.heap.size w (w.alloc (.cells #[.int .i64 v0, .int .i64 v1, .int .i64 v2, .int .i64 v3, .int .i64 v4] 42)) := (Below.refl _ _).alloc (Nat.le_refl _) _
  have HX := Lib.hid (Box.of_alloc (w := w) (cs := [.int .i64 v0, .int .i64 v1, .int .i64 v2, .int .i64 v3, .int .i64 v4]) (t := 42) (Below.refl _ _))
  have HB := Lib.hid (h.below hba)
  have HBA := Lib.hid hba
  have HO := Lib.hid (And.intro (show w.heap.size < (w.alloc (.cells #[.int .i64 v0, .int .i64 v1, .int .i64 v2, .int .i64 v3, .int .i64 v4] 42)).heap.size by simp) h.new)
  have HG := Lib.hid (Gro.refl a (w.alloc (.cells #[.int .i64 v0, .int .i64 v1, .int .i64 v2, .int .i64 v3, .int .i64 v4] 42)))
  have HLL : Hid (bs = bs) := Lib.hid rfl
  have hDA : D ≤ (w.alloc (.cells #[.int .i64 v0, .int .i64 v1, .int .i64 v2, .int .i64 v3, .int .i64 v4] 42)).heap.size := Nat.le_trans hD hba.size
  replace hD := hDA
  clear h hba hDA
  have y0 := HX.out.cell (j := 0) rfl
  have y1 := HX.out.cell (j := 1) rfl
  have y2 := HX.out.cell (j := 2) rfl
  have y3 := HX.out.cell (j := 3) rfl
  have y4 := HX.out.cell (j := 4) rfl
  go_enter Try.func65, Try.ntmps65
  go_wp2_with ((go_at_call 62; ((with_reducible refine (number_rl D _ _ _ _ _ HB.out (Nat.le_trans hD HG.out.size) (by omega)).mono ?_); rintro en w1 ⟨l, a1, c1, rfl, hl, hlen, hb1, hg1⟩; replace HLL := Lib.hid (hl.trans (congrArg (· ++ _) HLL.out)); clear hl; clear y0 y1 y2 y3 y4; replace HX := Lib.hid (HX.out.gro (by simp) hg1 (HG.out.off HO.out.1 HO.out.2));  replace HG := Lib.hid (HG.out.trans hg1); replace HB := Lib.hid hb1; clear hb1 hg1; have y0 := HX.out.cell (j := 0) rfl; have y1 := HX.out.cell (j := 1) rfl; have y2 := HX.out.cell (j := 2) rfl; have y3 := HX.out.cell (j := 3) rfl; have y4 := HX.out.cell (j := 4) rfl)))
  go_ret
  have hll := HLL.out
  simp only [List.append_assoc] at hll
  refine ⟨a1, c1, ?_, ?_, HG.out.pre HBA.out⟩
  · show Ending.returned (.slice a1 l.length c1) = _
    rw [hll]; rfl
  · have := HB.out
    rw [hll] at this; exact this
theorem refanswer_bytes (v0 v1 v2 v3 v4 : Int) (w : World) :
    Calls Try.prog 27 #[.agg #[.int .i64 v0, .int .i64 v1, .int .i64 v2, .int .i64 v3, .int .i64 v4]] w (RetB w (encWAns ⟨v0, v1, v2, v3, v4⟩)) := by
  have hba : Below w.heap.size w (w.alloc (.cells #[.int .i64 v0, .int .i64 v1, .int .i64 v2, .int .i64 v3, .int .i64 v4] 42)) := (Below.refl _ _).alloc (Nat.le_refl _) _
  have HE : Hid (Calls Try.prog 65 #[.slice none 0 0, .agg #[.int .i64 v0, .int .i64 v1, .int .i64 v2, .int .i64 v3, .int .i64 v4]] (w.alloc (.cells #[.int .i64 v0, .int .i64 v1, .int .i64 v2, .int .i64 v3, .int .i64 v4] 42)) (RetCb (w.alloc (.cells #[.int .i64 v0, .int .i64 v1, .int .i64 v2, .int .i64 v3, .int .i64 v4] 42)) w.heap.size none (encWAns ⟨v0, v1, v2, v3, v4⟩))) := answer_rf w.heap.size 0 none [] v0 v1 v2 v3 v4 (w.alloc (.cells #[.int .i64 v0, .int .i64 v1, .int .i64 v2, .int .i64 v3, .int .i64 v4] 42)) (Cb.nil _ _) hba.size (by simp)
  have HBA := Lib.hid hba
  clear hba
  generalize encWAns _ = L at HE ⊢
  go_enter Try.func27, Try.ntmps27
  go_wp2_with (go_at_call 65; ((with_reducible refine HE.out.mono ?_); rintro en w1 ⟨a1, c1, rfl, hb1, hg1⟩; have HB1 := Lib.hid hb1; have HG1 := Lib.hid hg1; clear hb1 hg1))
  go_ret
  exact ⟨a1, c1, rfl, HB1.out.can.row, HBA.out.trans (HG1.out.bel.mono HBA.out.size)⟩
end Go.Proofs.Ytlckgnemmffdkaa
