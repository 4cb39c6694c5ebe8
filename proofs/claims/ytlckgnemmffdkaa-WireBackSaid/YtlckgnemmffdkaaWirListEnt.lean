import Derived.Test.YtlckgnemmffdkaaPackWireMessage3
import Derived.Deep.RegionLaw
set_option linter.unusedVariables false
set_option linter.unusedSimpArgs false
/- Lists read: a list of Ent. (printed by gen_wirlist.py) -/
namespace Go.Proofs.Ytlckgnemmffdkaa
open Go.ChangeShapes Go.WideShapes Go.ChangeAt Go.RowKit
set_option maxRecDepth 100000

theorem el_ent : Elem Try.prog 63 32 5 56 where
  under := Try.underlying63
  info := by
    have h : (Try.prog.info? 32).map (fun i => (i.zero.map fun z => (z.cells.size, z.cells.all (·.oneCell')), i.size, i.bytes)) = some (some (5, true), 5, 56) := by kernel_rfl
    cases hi : Try.prog.info? 32 with
    | none => rw [hi] at h; cases h
    | some i =>
      rw [hi, Option.map_some] at h
      cases hz : i.zero with
      | none => rw [hz] at h; simp at h
      | some z =>
        rw [hz] at h
        simp at h
        exact ⟨i, z, rfl, hz, h.2.1, h.2.2, h.1.1⟩
  pos := by decide
  bpos := by decide
def IsListEnt (w0 : World) (gx ox : Nat) (cs : List Value) (xs : List WEnt) (w' : World) : Prop := ∃ (es : List (WEnt × PEnt)) (a' : Option Addr) (c' : Nat), Box w' gx (cs.set ox (.slice a' es.length c')) ∧ MemEs w0 w' a' xs es ∧ es.length ≤ c'
set_option maxHeartbeats 8000000 in
theorem listent_t (g c p gx ox : Nat) (a : Option Addr) (bs : List UInt8) (cs : List Value) (w : World) (h : Cr w g a c bs p) (hl : bs.length ≤ 2000000) (hx : Box w gx cs) (hgx : Off g (rowA a bs) gx) (hox : ox < cs.length) (hv : cs[ox]? = some (.slice none 0 0)) :
    Calls Try.prog 98 #[.pointer (some ⟨g, 0, none⟩), .pointer (some ⟨gx, ox, none⟩), .int .i64 26, .func (.func 45) #[.pointer (some ⟨g, 0, none⟩)] #[]] w (RetT w g gx cs.length a c bs (listP 26 wEntP bs p) (IsListEnt w gx ox cs)) := by
  have x0 := hx.cell hv
  have hxl := hx.lt (by omega)
  have hgl := h.box.lt (by simp)
  have HCO : Hid (Calls Try.prog 100 #[.pointer (some ⟨g, 0, none⟩), .int .i64 0, .int .i64 26] w (RetCount w g a c bs (countP 26 bs p))) := count_t g c p 26 0 a bs w h hl (by omega) (by omega)
  have HX := Lib.hid hx
  have HE := Lib.hid (And.intro hxl hgl)
  have HV := Lib.hid hv
  clear h hx hv
  go_enter Try.func98, Try.ntmps98
  go_wp2_with (go_at_call 100; ((with_reducible refine HCO.out.mono ?_); rintro e w1 ⟨ht, ⟨n, q, hr, rfl, hc⟩ | ⟨f, hr, rfl⟩⟩ <;> have HT1 := Lib.hid (Turn.of' (gx := gx) ht) <;> have HX1 := Lib.hid (HX.out.keep (by omega) ht (by have := HE.out.1; have := hgx.ne; omega)) <;> have HR := Lib.hid hr <;> clear ht hr; all_goals (first | (have x1 := HX1.out.cell (List.getElem?_eq_getElem hox); have z1 := HX1.out.froz hox; have r2 := hc.box.cell (j := 2) rfl; have HC1 := Lib.hid hc; clear hc) | skip)))
  · have x2 := HX1.out.cell HV.out
    rw [setCell_id x2]
    have hid : cs.set ox (.slice none 0 0) = cs := List.set_getElem_self' HV.out
    have HL0 : Hid (Ls w w1 g gx ox a c bs q cs 32 5 none 0 0 []) := ⟨HC1.out, HT1.out, by rw [hid]; exact HX1.out, Can.nil _ _ _ _, (fun _ _ _ h => by cases h), HE.out.2, HE.out.1, hgx, hox⟩
    have hnq := count_le HR.out
    have hnl : n ≤ 2000000 := Nat.le_trans hnq (Nat.le_trans (Nat.div_le_self _ _) (by omega))
    clear x0 x1 x2 z1 r2 hid HX1 HT1 HC1 hnq
    go_loopw [26] (fun i wr => ∃ (xs : List EntP) (q1 : Nat) (a1 : Option Addr) (c1 : Nat), xs.length ≤ n ∧ i = .int .i64 xs.length ∧ Hid (Ls w wr g gx ox a c bs q1 cs 32 5 a1 xs.length c1 (xs.flatMap cellsEn)) ∧ Hid (timesP wEntP xs.length bs q = .ok ((xs.map Prod.fst), q1)) ∧ Hid (∀ y ∈ xs, EntIn w wr a1 y)) (fun i _ => n - (intOf i).toNat)
    case atStart => exact ⟨[], q, none, 0, by simp, rfl, HL0.out, rfl, fun y hy => by cases hy⟩
    case round =>
      obtain ⟨xs, q1, a1, c1, hk, rfl, hls, htm, hmem⟩ := hrel
      by_cases hlt : xs.length < n
      · have ht' := hls.out.turn.size
        have hoffX : Off g (rowA a bs) wr.heap.size := hls.out.cr.new (Nat.le_refl _)
        have HON := Lib.hid (entry_t g c q1 wr.heap.size a bs (wr.alloc (.cells #[.int .i64 0, .int .i8 0, .int .i64 0, .int .u8 0, .slice none 0 0] 32)) (hls.out.cr.below (mid_alloc' (Below.refl _ _))) hl (Box.of_alloc (Below.refl _ _)) hoffX)
        go_upto_region 7 with ((go_at_call 45; ((with_reducible refine HON.out.mono ?_); rintro en w4 ⟨ht, ⟨⟨v0, v1, v2, v3, v4⟩, q4, hr, rfl, hc, ⟨p0, p1⟩, hb, hm⟩ | ⟨f, hr, rfl, hb⟩⟩ <;> have HR4 := Lib.hid hr <;> clear hr; all_goals (first | (have HMR4 := Lib.hid (show ∀ y ∈ xs ++ [(⟨⟨v0, v1, v2, v3, v4⟩, (p0, p1)⟩ : WEnt × PEnt)], EntIn w w4 a1 y from fun y hy => by rcases List.mem_append.1 hy with hy | hy; exact (hmem.out y hy).one ht hls.out.gl; rw [List.mem_singleton] at hy; subst hy; exact EntIn.new hm (by have := hls.out.turn.size; simp; omega) (fun b o s e => by have := (hls.out.far b o s e).2; simp; omega)); clear hm; have HL4 := Lib.hid (hls.out.one ht hc); replace hb : Box w4 wr.heap.size [.int .i64 v0, .int .i8 v1, .int .i64 v2, B v3, .slice p0 v4.length p1] := hb; have y0 := hb.cell (j := 0) rfl; have y1 := hb.cell (j := 1) rfl; have y2 := hb.cell (j := 2) rfl; have y3 := hb.cell (j := 3) rfl; have y4 := hb.cell (j := 4) rfl; have HX4 := Lib.hid hb; have k0 := HL4.out.box.cell (j := ox) (by rw [List.getElem?_set_self hox]); have kz := HL4.out.box.froz (j := ox) (by rw [List.length_set]; exact hox); have ea : gx < w4.heap.size := HL4.out.box.lt (by rw [List.length_set]; omega); have eb : wr.heap.size < w4.heap.size := HX4.out.lt (by simp); clear ht hc hb) | (have HL4 := Lib.hid (Keep.trans (hls.out.turn.next (Turn.below (mid_alloc' (Below.refl _ _)))) (ht.mono fun k _ e => by rcases e with e | e | e; exact .inl e; exact .inr (.inr (by have := hls.out.turn.size; omega)); exact .inr (.inr (by have := hls.out.turn.size; simp at e; omega))) : Turn g gx w w4); have HB4 := Lib.hid ((hls.out.box.next (by rw [List.length_set]; omega) (mid_alloc' (Below.refl _ _)) : Box (wr.alloc (.cells #[.int .i64 0, .int .i8 0, .int .i64 0, .int .u8 0, .slice none 0 0] 32)) gx _).keep (by rw [List.length_set]; omega) ht (by have := hls.out.xl; have := hgx.ne; simp; omega)); clear ht hb)))))
        · have hDr : w.heap.size ≤ w4.heap.size := HL4.out.turn.size
          go_region_law (first
            | (refine step_far el_ent rfl (.tmp 33) (.tmp 35) rfl w.heap.size a1 xs.length c1 (xs.flatMap cellsEn) rfl (Can.drew (HL4.out.can.alloc _)) (some ⟨w4.heap.size, 0, none⟩) 1 1 [.int .i64 v0, .int .i8 v1, .int .i64 v2, B v3, .slice p0 v4.length p1] rfl rfl (Row.drew (Row.new _ _ _ _)) (by intro u hu; simp at hu; rcases hu with rfl | rfl | rfl | rfl | rfl <;> rfl) (by omega) (by simp; omega) (fun b o s e => ⟨(HL4.out.far b o s e).1, by have := (HL4.out.far b o s e).2; simp; omega⟩) ?_; intro a2 c2 w5 hcan2 hg2 hn2 hf2 hl2; have hst := HL4.out.push (((Below.refl _ _).alloc (Nat.le_refl _) _).drew) hcan2 hg2 hf2 hl2; have q0 := hst.2.1.cell (j := ox) (by rw [List.getElem?_set_self hox]); have q1z := hst.2.1.froz (j := ox) (by rw [List.length_set]; exact hox); have HST := Lib.hid hst; have HME5 := Lib.hid (fun y hy => (HMR4.out y hy).push HST.out.2.2 hn2 (by simp) hls.out.xl (ox := ox) (.slice a2 (xs.length + 1) c2));  clear hst hcan2 hg2 hn2 hf2 hl2))
          all_goals
            clear q0 q1z
            go_wp2_with fail
            exact ⟨⟨xs ++ [(⟨⟨v0, v1, v2, v3, v4⟩, (p0, p1)⟩ : WEnt × PEnt)], q4, a2, c2, by simp; omega, by simp, by (show Ls _ _ _ _ _ _ _ _ _ _ _ _ _ _ _ _); rw [List.length_append, List.flatMap_append, List.flatMap_singleton]; exact HST.out.1, by (show _ = _); rw [List.length_append, List.map_append]; exact times_snoc htm.out HR4.out, HME5.out⟩, by simp [intOf]; omega⟩
        · refine ⟨rfl, HL4.out, .inr ⟨_, ?_, rfl, .of HB4.out (by rw [List.length_set])⟩⟩
          (show bindP _ _ = _); rw [HR.out]
          exact times_fail htm.out HR4.out hlt
      · have hln : xs.length = n := by omega
        have HLN := Lib.hid hln
        have hd : decide (xs.length < n) = false := decide_eq_false hlt
        clear hln hlt
        go_wp2
        first | go_end0 | refine bodyPost_ret (results_none rfl _ _ _) rfl ?_
        refine ⟨hls.out.turn, .inl ⟨(xs.map Prod.fst), q1, ?_, rfl, hls.out.cr, xs, a1, c1, hls.out.box, ⟨rfl, ⟨hls.out.can.row, fun _ b o s e => (hls.out.far b o s e).1⟩, fun y hy => (hmem.out y hy).mem⟩, hls.out.can.le⟩⟩
        (show bindP _ _ = _); rw [HR.out, bindP_ok, ← HLN.out]; exact htm.out
  · exact ⟨rfl, HT1.out, .inr ⟨_, by (show bindP _ _ = _); rw [HR.out]; rfl, rfl, .of HX1.out rfl⟩⟩
end Go.Proofs.Ytlckgnemmffdkaa
