import Derived.Test.YtlckgnemmffdkaaPackWireMessage3
import Derived.Test.YtlckgnemmffdkaaWirClosTen
import Derived.Deep.RegionLaw
import Derived.Test.YtlckgnemmffdkaaWirClosLea
import Derived.Test.YtlckgnemmffdkaaWirClosSes
import Derived.Test.YtlckgnemmffdkaaWirClosDsk
set_option linter.unusedVariables false
set_option linter.unusedSimpArgs false
/- Lists read: a list of Ten. (printed by gen_wirlist.py) -/
namespace Go.Proofs.Ytlckgnemmffdkaa
open Go.ChangeShapes Go.WideShapes Go.ChangeAt Go.RowKit
set_option maxRecDepth 100000

theorem el_ten : Elem Try.prog 51 115 5 40 where
  under := Try.underlying51
  info := by
    have h : (Try.prog.info? 115).map (fun i => (i.zero.map fun z => (z.cells.size, z.cells.all (·.oneCell')), i.size, i.bytes)) = some (some (5, true), 5, 40) := by kernel_rfl
    cases hi : Try.prog.info? 115 with
    | none => rw [hi] at h; cases h
    | some i =>
      rw [hi, Option.map_some] at h
      cases hz : i.zero with
      | none => rw [hz] at h; simp at h
      | some z =>
        rw [hz] at h
        simp at h
        exact ⟨i, z, rfl, hz, h.2.1, h.2.2, h.1.1⟩
  pos := by decide
  bpos := by decide
def IsListTen (w0 : World) (gx ox : Nat) (cs : List Value) (xs : List WTen) (w' : World) : Prop := ∃ (a' : Option Addr) (c' : Nat), Box w' gx (cs.set ox (.slice a' xs.length c')) ∧ FarRow w0 w' a' (xs.flatMap cellsWTen) ∧ xs.length ≤ c'
set_option maxHeartbeats 8000000 in
theorem listten_t (g c p gx ox : Nat) (gc : Nat) (a : Option Addr) (bs : List UInt8) (cs : List Value) (w : World) (h : Cr w g a c bs p) (hl : bs.length ≤ 2000000) (hx : Box w gx cs) (hgx : Off g (rowA a bs) gx) (hox : ox < cs.length) (hv : cs[ox]? = some (.slice none 0 0)) (hgc : Box w gc [.pointer (some ⟨g, 0, none⟩)]) (hgn : gc ≠ g ∧ gc ≠ gx) :
    Calls Try.prog 89 #[.pointer (some ⟨g, 0, none⟩), .pointer (some ⟨gx, ox, none⟩), .int .i64 33, .func (.func 90) #[] #[.pointer (some ⟨gc, 0, none⟩)]] w (RetT w g gx cs.length a c bs (listP 33 wTenP bs p) (IsListTen w gx ox cs)) := by
  have x0 := hx.cell hv
  have hxl := hx.lt (by omega)
  have hgl := h.box.lt (by simp)
  have HCO : Hid (Calls Try.prog 100 #[.pointer (some ⟨g, 0, none⟩), .int .i64 0, .int .i64 33] w (RetCount w g a c bs (countP 33 bs p))) := count_t g c p 33 0 a bs w h hl (by omega) (by omega)
  have HX := Lib.hid hx
  have HE := Lib.hid (And.intro hxl hgl)
  have HV := Lib.hid hv
  have HGC := Lib.hid hgc
  have HGCW := Lib.hid (hgc.lt (by simp))
  clear hgc
  clear h hx hv
  go_enter Try.func89, Try.ntmps89
  go_wp2_with (go_at_call 100; ((with_reducible refine HCO.out.mono ?_); rintro e w1 ⟨ht, ⟨n, q, hr, rfl, hc⟩ | ⟨f, hr, rfl⟩⟩ <;> have HT1 := Lib.hid (Turn.of' (gx := gx) ht) <;> have HX1 := Lib.hid (HX.out.keep (by omega) ht (by have := HE.out.1; have := hgx.ne; omega)) <;> have HGC1 := Lib.hid (HGC.out.keep (by simp) ht (by have := HGC.out.lt (by simp); omega)) <;> have HR := Lib.hid hr <;> clear ht hr; all_goals (first | (have x1 := HX1.out.cell (List.getElem?_eq_getElem hox); have z1 := HX1.out.froz hox; have r2 := hc.box.cell (j := 2) rfl; have HC1 := Lib.hid hc; clear hc) | skip)))
  · have x2 := HX1.out.cell HV.out
    rw [setCell_id x2]
    have hid : cs.set ox (.slice none 0 0) = cs := List.set_getElem_self' HV.out
    have HL0 : Hid (Ls w w1 g gx ox a c bs q cs 115 5 none 0 0 []) := ⟨HC1.out, HT1.out, by rw [hid]; exact HX1.out, Can.nil _ _ _ _, (fun _ _ _ h => by cases h), HE.out.2, HE.out.1, hgx, hox⟩
    have hnq := count_le HR.out
    have hnl : n ≤ 2000000 := Nat.le_trans hnq (Nat.le_trans (Nat.div_le_self _ _) (by omega))
    clear x0 x1 x2 z1 r2 hid HX1 HT1 HC1 hnq
    go_loopw [26] (fun i wr => ∃ (xs : List WTen) (q1 : Nat) (a1 : Option Addr) (c1 : Nat), xs.length ≤ n ∧ i = .int .i64 xs.length ∧ Hid (Ls w wr g gx ox a c bs q1 cs 115 5 a1 xs.length c1 (xs.flatMap cellsWTen)) ∧ Hid (timesP wTenP xs.length bs q = .ok (xs, q1)) ∧ Hid (Box wr gc [.pointer (some ⟨g, 0, none⟩)])) (fun i _ => n - (intOf i).toNat)
    case atStart => exact ⟨[], q, none, 0, by simp, rfl, HL0.out, rfl, HGC1.out⟩
    case round =>
      obtain ⟨xs, q1, a1, c1, hk, rfl, hls, htm, hgcr⟩ := hrel
      by_cases hlt : xs.length < n
      · have ht' := hls.out.turn.size
        have hoffX : Off g (rowA a bs) wr.heap.size := hls.out.cr.new (Nat.le_refl _)
        have HON := Lib.hid (closten_t g c q1 wr.heap.size gc a bs (wr.alloc (.cells #[.int .i64 0, .int .i64 0, .int .i64 0, .int .i64 0, .bool false] 115)) (hls.out.cr.below (mid_alloc' (Below.refl _ _))) hl (Box.of_alloc (Below.refl _ _)) hoffX (hgcr.out.next (by simp) (mid_alloc' (Below.refl _ _))) ⟨hgn.1, by have := hgcr.out.lt (by simp); omega⟩)
        go_upto_region 7 with ((go_at_call 90; ((with_reducible refine HON.out.mono ?_); rintro en w4 ⟨ht, ⟨⟨v0, v1, v2, v3, v4⟩, q4, hr, rfl, hc, hb⟩ | ⟨f, hr, rfl, hb⟩⟩ <;> have HR4 := Lib.hid hr <;> clear hr; all_goals (first | (have HGC4 := Lib.hid ((hgcr.out.next (by simp) (mid_alloc' (Below.refl _ _)) : Box (wr.alloc (.cells #[.int .i64 0, .int .i64 0, .int .i64 0, .int .i64 0, .bool false] 115)) gc _).keep (by simp) ht (by have := hgcr.out.lt (by simp); have := hgn; simp; omega)); have HL4 := Lib.hid (hls.out.one ht hc); replace hb : Box w4 wr.heap.size [.int .i64 v0, .int .i64 v1, .int .i64 v2, .int .i64 v3, .bool v4] := hb; have y0 := hb.cell (j := 0) rfl; have y1 := hb.cell (j := 1) rfl; have y2 := hb.cell (j := 2) rfl; have y3 := hb.cell (j := 3) rfl; have y4 := hb.cell (j := 4) rfl; have HX4 := Lib.hid hb; have k0 := HL4.out.box.cell (j := ox) (by rw [List.getElem?_set_self hox]); have kz := HL4.out.box.froz (j := ox) (by rw [List.length_set]; exact hox); have ea : gx < w4.heap.size := HL4.out.box.lt (by rw [List.length_set]; omega); have eb : wr.heap.size < w4.heap.size := HX4.out.lt (by simp); clear ht hc hb) | (have HL4 := Lib.hid (Keep.trans (hls.out.turn.next (Turn.below (mid_alloc' (Below.refl _ _)))) (ht.mono fun k _ e => by rcases e with e | e | e; exact .inl e; exact .inr (.inr (by have := hls.out.turn.size; omega)); exact .inr (.inr (by have := hls.out.turn.size; simp at e; omega))) : Turn g gx w w4); have HB4 := Lib.hid ((hls.out.box.next (by rw [List.length_set]; omega) (mid_alloc' (Below.refl _ _)) : Box (wr.alloc (.cells #[.int .i64 0, .int .i64 0, .int .i64 0, .int .i64 0, .bool false] 115)) gx _).keep (by rw [List.length_set]; omega) ht (by have := hls.out.xl; have := hgx.ne; simp; omega)); clear ht hb)))))
        · have hDr : w.heap.size ≤ w4.heap.size := HL4.out.turn.size
          go_region_law (first
            | (refine step_far el_ten rfl (.tmp 33) (.tmp 35) rfl w.heap.size a1 xs.length c1 (xs.flatMap cellsWTen) rfl (Can.drew (HL4.out.can.alloc _)) (some ⟨w4.heap.size, 0, none⟩) 1 1 [.int .i64 v0, .int .i64 v1, .int .i64 v2, .int .i64 v3, .bool v4] rfl rfl (Row.drew (Row.new _ _ _ _)) (by intro u hu; simp at hu; rcases hu with rfl | rfl | rfl | rfl | rfl <;> rfl) (by omega) (by simp; omega) (fun b o s e => ⟨(HL4.out.far b o s e).1, by have := (HL4.out.far b o s e).2; simp; omega⟩) ?_; intro a2 c2 w5 hcan2 hg2 hn2 hf2 hl2; have hst := HL4.out.push (((Below.refl _ _).alloc (Nat.le_refl _) _).drew) hcan2 hg2 hf2 hl2; have q0 := hst.2.1.cell (j := ox) (by rw [List.getElem?_set_self hox]); have q1z := hst.2.1.froz (j := ox) (by rw [List.length_set]; exact hox); have HST := Lib.hid hst; have HGC5 := Lib.hid (HGC4.out.block (HST.out.2.2 gc (HGC4.out.lt (by simp)) (fun o s e => by have := (HL4.out.far _ o s e).1; have := HGCW.out; omega)));  clear hst hcan2 hg2 hn2 hf2 hl2))
          all_goals
            clear q0 q1z
            go_wp2_with fail
            exact ⟨⟨xs ++ [(⟨v0, v1, v2, v3, v4⟩ : WTen)], q4, a2, c2, by simp; omega, by simp, by (show Ls _ _ _ _ _ _ _ _ _ _ _ _ _ _ _ _); rw [List.length_append, List.flatMap_append, List.flatMap_singleton]; exact HST.out.1, by (show _ = _); rw [List.length_append]; exact times_snoc htm.out HR4.out, HGC5.out.far (by show gx ≠ gc; exact fun e => hgn.2 e.symm) _⟩, by simp [intOf]; omega⟩
        · refine ⟨rfl, HL4.out, .inr ⟨_, ?_, rfl, .of HB4.out (by rw [List.length_set])⟩⟩
          (show bindP _ _ = _); rw [HR.out]
          exact times_fail htm.out HR4.out hlt
      · have hln : xs.length = n := by omega
        have HLN := Lib.hid hln
        have hd : decide (xs.length < n) = false := decide_eq_false hlt
        clear hln hlt
        go_wp2
        first | go_end0 | refine bodyPost_ret (results_none rfl _ _ _) rfl ?_
        refine ⟨hls.out.turn, .inl ⟨xs, q1, ?_, rfl, hls.out.cr, a1, c1, hls.out.box, ⟨hls.out.can.row, fun _ b o s e => (hls.out.far b o s e).1⟩, hls.out.can.le⟩⟩
        (show bindP _ _ = _); rw [HR.out, bindP_ok, ← HLN.out]; exact htm.out
  · exact ⟨rfl, HT1.out, .inr ⟨_, by (show bindP _ _ = _); rw [HR.out]; rfl, rfl, .of HX1.out rfl⟩⟩
end Go.Proofs.Ytlckgnemmffdkaa

/- Lists behind a writer's bytes: a list of Ten. (printed by gen_wirlist.py) -/
namespace Go.Proofs.Ytlckgnemmffdkaa
open Go.ChangeShapes Go.WideShapes Go.ChangeAt Go.RowKit
set_option maxRecDepth 100000

set_option maxHeartbeats 4000000 in
theorem listten_w (D g gx ox c m kk : Nat) (gc : Nat) (a ad : Option Addr) (bs : List UInt8) (xs : List (WTen)) (w : World) (h : Cw w D g a c bs) (hD : D ≤ w.heap.size) (hx : w.cell? ⟨gx, ox, none⟩ = some (.slice ad m kk)) (hm : xs.length = m) (hr : LowRow g w ad (xs.flatMap cellsWTen)) (hgx : gx ≠ g) (hxa : ∀ o s, a ≠ some ⟨gx, o, s⟩) (hn : bs.length ≤ 1500000) (hsz : (xs.flatMap encWTen).length ≤ 1000000) (hm2 : m ≤ 1000000) (hgc : Box w gc [.pointer (some ⟨g, 0, none⟩)]) (hgn : gc ≠ g ∧ ∀ o s, a ≠ some ⟨gc, o, s⟩) :
    Calls Try.prog 89 #[.pointer (some ⟨g, 0, none⟩), .pointer (some ⟨gx, ox, none⟩), .int .i64 33, .func (.func 90) #[] #[.pointer (some ⟨gc, 0, none⟩)]] w (RetCw w D g a (bs ++ (be8 xs.length ++ xs.flatMap encWTen))) := by
  have HCO : Hid (Calls Try.prog 100 #[.pointer (some ⟨g, 0, none⟩), .int .i64 m, .int .i64 33] w (RetCount' w D g a m (bs ++ be8 (m : Int)))) := count_w D g c 33 m a bs w h hD (by omega)
  have HC := Lib.hid h
  have HX := Lib.hid (And.intro hx (And.intro hgx hxa))
  have HR := Lib.hid hr
  have HM := Lib.hid hm
  have hgxl := World.block_lt_of_cell? w _ hx
  have hlb : (bs ++ be8 (m : Int)).length ≤ 1500008 := by rw [List.length_append, be8_length]; omega
  have HTT := Lib.hid (show bs ++ (be8 xs.length ++ xs.flatMap encWTen) = (bs ++ be8 (m : Int)) ++ xs.flatMap encWTen by rw [hm, List.append_assoc])
  have HGC := Lib.hid (And.intro hgc hgn)
  clear hgc hgn
  clear h hgx hxa hr hm
  generalize bs ++ be8 (m : Int) = l1 at HCO HTT hlb
  go_enter Try.func89, Try.ntmps89
  go_wp2_with (go_at_call 100; ((with_reducible refine HCO.out.mono ?_); rintro e w1 ⟨a1, c1, rfl, hcw1, hgr1⟩; have y1 := grew_cell hgr1 HX.out.1 HX.out.2.1 HX.out.2.2; have y2 := hcw1.box.cell (j := 2) rfl; have HC1 := Lib.hid hcw1; have HG1 := Lib.hid hgr1; clear hcw1 hgr1))
  clear y1 y2
  go_loopw [43] (fun i wr => ∃ (k : Nat) (a3 : Option Addr) (c3 : Nat), k ≤ m ∧ i = .int .i64 k ∧ Hid (Cw wr D g a3 c3 (l1 ++ (xs.take k).flatMap encWTen)) ∧ Hid (Grew g a a3 w wr)) (fun i _ => m - (intOf i).toNat)
  case atStart => exact ⟨0, a1, c1, by omega, rfl, by show Cw _ _ _ _ _ _; simpa using HC1.out, HG1.out⟩
  case round =>
    obtain ⟨k, a3, c3, hk, rfl, hcw, hgr⟩ := hrel
    by_cases hlt : k < m
    · have hkx : k < xs.length := by rw [HM.out]; exact hlt
      have hDr : D ≤ wr.heap.size := Nat.le_trans hD hgr.out.size
      have y1 := grew_cell hgr.out HX.out.1 HX.out.2.1 HX.out.2.2
      have hrow := HR.out.grew HC.out hgr.out
      have HT := Lib.hid (show l1 ++ (xs.take (k + 1)).flatMap encWTen = (l1 ++ (xs.take k).flatMap encWTen) ++ encWTen (xs[k]'hkx) by rw [List.take_succ_eq_append_getElem hkx, List.flatMap_append, List.flatMap_singleton, List.append_assoc])
      have hll : (l1 ++ (xs.take k).flatMap encWTen).length ≤ 2600000 := by
        have h1 : xs.flatMap encWTen = (xs.take k).flatMap encWTen ++ (xs.drop k).flatMap encWTen := by rw [← List.flatMap_append, List.take_append_drop]
        have h2 := congrArg List.length h1
        rw [List.length_append] at h2
        rw [List.length_append]; omega
      obtain ⟨b, o, rfl, hcell⟩ := Row.at hrow.row (k := k * 5) (by rw [flatMap_len (cells := cellsWTen) (size := 5) (fun _ => rfl)]; have := Nat.mul_lt_mul_of_pos_right hkx (show 0 < 5 by decide); omega)
      have hce : ∀ r, r < 5 → wr.cell? ⟨b, o + k * 5 + r, none⟩ = (cellsWTen (xs[k]'hkx))[r]? := fun r hr => by
        have h1 := flatMap_at (cells := cellsWTen) (size := 5) (fun _ => rfl) (xs := xs) (i := k) hr
        rw [List.getElem?_eq_getElem hkx, Option.bind_some] at h1
        have h2 : k * 5 + r < (xs.flatMap cellsWTen).length := by
          rw [flatMap_len (cells := cellsWTen) (size := 5) (fun _ => rfl)]
          first | (simp only [Nat.mul_one]; omega) | (have := Nat.mul_le_mul_right 5 (Nat.succ_le_of_lt hkx); rw [Nat.succ_mul] at this; omega)
        have h3 := hcell (k * 5 + r) h2
        rw [Nat.add_assoc, h3, ← h1, List.getElem?_eq_getElem h2]
      generalize xs[k]'hkx = x at HT hce
      obtain ⟨v0, v1, v2, v3, v4⟩ := x
      have q0 := hce 0 (by decide)
      rw [show (cellsWTen (⟨v0, v1, v2, v3, v4⟩ : WTen))[0]? = some (.int .i64 v0) from rfl] at q0
      have q1 := hce 1 (by decide)
      rw [show (cellsWTen (⟨v0, v1, v2, v3, v4⟩ : WTen))[1]? = some (.int .i64 v1) from rfl] at q1
      have q2 := hce 2 (by decide)
      rw [show (cellsWTen (⟨v0, v1, v2, v3, v4⟩ : WTen))[2]? = some (.int .i64 v2) from rfl] at q2
      have q3 := hce 3 (by decide)
      rw [show (cellsWTen (⟨v0, v1, v2, v3, v4⟩ : WTen))[3]? = some (.int .i64 v3) from rfl] at q3
      have q4 := hce 4 (by decide)
      rw [show (cellsWTen (⟨v0, v1, v2, v3, v4⟩ : WTen))[4]? = some (.bool v4) from rfl] at q4
      simp only [Nat.add_zero] at q0
      clear hce hcell hrow hkx
      have HON := Lib.hid (closten_w D g wr.heap.size gc c3 a3 (l1 ++ (xs.take k).flatMap encWTen) ⟨v0, v1, v2, v3, v4⟩ (wr.alloc (.cells #[.int .i64 v0, .int .i64 v1, .int .i64 v2, .int .i64 v3, .bool v4] 115)) (hcw.out.below (mid_alloc' (Below.refl _ _))) (by simp; omega) (Box.of_alloc (Below.refl _ _)) hcw.out.new.1 hcw.out.new.2 ((HGC.out.1.grew (by simp) hgr.out HGC.out.2.1 HGC.out.2.2).next (by simp) (mid_alloc' (Below.refl _ _))) HGC.out.2.1 (hgr.out.off (HGC.out.1.lt (by simp)) HGC.out.2.2) (by omega))
      go_wp2_with (go_at_call 90; ((with_reducible refine HON.out.mono ?_); rintro en w4 ⟨a4, c4, rfl, hcw4, hgr4⟩; have HC4 := Lib.hid hcw4; have HG4 := Lib.hid (hgr4.pre (mid_alloc' (Below.refl _ _))); clear hcw4 hgr4))
      exact ⟨⟨k + 1, a4, c4, by omega, by go_num, by show Cw _ _ _ _ _ _; rw [HT.out]; exact HC4.out, hgr.out.trans HG4.out⟩, by simp [intOf]; omega⟩
    · obtain rfl : k = m := by omega
      have hd : decide (k < k) = false := decide_eq_false (by omega)
      go_wp2
      first | go_end0 | refine bodyPost_ret (results_none rfl _ _ _) rfl ?_
      refine ⟨a3, c3, rfl, ?_, hgr.out⟩
      rw [HTT.out]
      have h := hcw.out
      rw [List.take_of_length_le (by rw [HM.out]; exact Nat.le_refl _)] at h; exact h
end Go.Proofs.Ytlckgnemmffdkaa

/- Lists read: a list of Lea. (printed by gen_wirlist.py) -/
namespace Go.Proofs.Ytlckgnemmffdkaa
open Go.ChangeShapes Go.WideShapes Go.ChangeAt Go.RowKit
set_option maxRecDepth 100000

theorem el_lea : Elem Try.prog 52 118 7 56 where
  under := Try.underlying52
  info := by
    have h : (Try.prog.info? 118).map (fun i => (i.zero.map fun z => (z.cells.size, z.cells.all (·.oneCell')), i.size, i.bytes)) = some (some (7, true), 7, 56) := by kernel_rfl
    cases hi : Try.prog.info? 118 with
    | none => rw [hi] at h; cases h
    | some i =>
      rw [hi, Option.map_some] at h
      cases hz : i.zero with
      | none => rw [hz] at h; simp at h
      | some z =>
        rw [hz] at h
        simp at h
        exact ⟨i, z, rfl, hz, h.2.1, h.2.2, h.1.1⟩
  pos := by decide
  bpos := by decide
def IsListLea (w0 : World) (gx ox : Nat) (cs : List Value) (xs : List WLea) (w' : World) : Prop := ∃ (a' : Option Addr) (c' : Nat), Box w' gx (cs.set ox (.slice a' xs.length c')) ∧ FarRow w0 w' a' (xs.flatMap cellsWLea) ∧ xs.length ≤ c'
set_option maxHeartbeats 8000000 in
theorem listlea_t (g c p gx ox : Nat) (gc : Nat) (a : Option Addr) (bs : List UInt8) (cs : List Value) (w : World) (h : Cr w g a c bs p) (hl : bs.length ≤ 2000000) (hx : Box w gx cs) (hgx : Off g (rowA a bs) gx) (hox : ox < cs.length) (hv : cs[ox]? = some (.slice none 0 0)) (hgc : Box w gc [.pointer (some ⟨g, 0, none⟩)]) (hgn : gc ≠ g ∧ gc ≠ gx) :
    Calls Try.prog 91 #[.pointer (some ⟨g, 0, none⟩), .pointer (some ⟨gx, ox, none⟩), .int .i64 56, .func (.func 92) #[] #[.pointer (some ⟨gc, 0, none⟩)]] w (RetT w g gx cs.length a c bs (listP 56 wLeaP bs p) (IsListLea w gx ox cs)) := by
  have x0 := hx.cell hv
  have hxl := hx.lt (by omega)
  have hgl := h.box.lt (by simp)
  have HCO : Hid (Calls Try.prog 100 #[.pointer (some ⟨g, 0, none⟩), .int .i64 0, .int .i64 56] w (RetCount w g a c bs (countP 56 bs p))) := count_t g c p 56 0 a bs w h hl (by omega) (by omega)
  have HX := Lib.hid hx
  have HE := Lib.hid (And.intro hxl hgl)
  have HV := Lib.hid hv
  have HGC := Lib.hid hgc
  have HGCW := Lib.hid (hgc.lt (by simp))
  clear hgc
  clear h hx hv
  go_enter Try.func91, Try.ntmps91
  go_wp2_with (go_at_call 100; ((with_reducible refine HCO.out.mono ?_); rintro e w1 ⟨ht, ⟨n, q, hr, rfl, hc⟩ | ⟨f, hr, rfl⟩⟩ <;> have HT1 := Lib.hid (Turn.of' (gx := gx) ht) <;> have HX1 := Lib.hid (HX.out.keep (by omega) ht (by have := HE.out.1; have := hgx.ne; omega)) <;> have HGC1 := Lib.hid (HGC.out.keep (by simp) ht (by have := HGC.out.lt (by simp); omega)) <;> have HR := Lib.hid hr <;> clear ht hr; all_goals (first | (have x1 := HX1.out.cell (List.getElem?_eq_getElem hox); have z1 := HX1.out.froz hox; have r2 := hc.box.cell (j := 2) rfl; have HC1 := Lib.hid hc; clear hc) | skip)))
  · have x2 := HX1.out.cell HV.out
    rw [setCell_id x2]
    have hid : cs.set ox (.slice none 0 0) = cs := List.set_getElem_self' HV.out
    have HL0 : Hid (Ls w w1 g gx ox a c bs q cs 118 7 none 0 0 []) := ⟨HC1.out, HT1.out, by rw [hid]; exact HX1.out, Can.nil _ _ _ _, (fun _ _ _ h => by cases h), HE.out.2, HE.out.1, hgx, hox⟩
    have hnq := count_le HR.out
    have hnl : n ≤ 2000000 := Nat.le_trans hnq (Nat.le_trans (Nat.div_le_self _ _) (by omega))
    clear x0 x1 x2 z1 r2 hid HX1 HT1 HC1 hnq
    go_loopw [26] (fun i wr => ∃ (xs : List WLea) (q1 : Nat) (a1 : Option Addr) (c1 : Nat), xs.length ≤ n ∧ i = .int .i64 xs.length ∧ Hid (Ls w wr g gx ox a c bs q1 cs 118 7 a1 xs.length c1 (xs.flatMap cellsWLea)) ∧ Hid (timesP wLeaP xs.length bs q = .ok (xs, q1)) ∧ Hid (Box wr gc [.pointer (some ⟨g, 0, none⟩)])) (fun i _ => n - (intOf i).toNat)
    case atStart => exact ⟨[], q, none, 0, by simp, rfl, HL0.out, rfl, HGC1.out⟩
    case round =>
      obtain ⟨xs, q1, a1, c1, hk, rfl, hls, htm, hgcr⟩ := hrel
      by_cases hlt : xs.length < n
      · have ht' := hls.out.turn.size
        have hoffX : Off g (rowA a bs) wr.heap.size := hls.out.cr.new (Nat.le_refl _)
        have HON := Lib.hid (closlea_t g c q1 wr.heap.size gc a bs (wr.alloc (.cells #[.int .i64 0, .int .i64 0, .int .i64 0, .int .i64 0, .int .i64 0, .int .i64 0, .int .i64 0] 118)) (hls.out.cr.below (mid_alloc' (Below.refl _ _))) hl (Box.of_alloc (Below.refl _ _)) hoffX (hgcr.out.next (by simp) (mid_alloc' (Below.refl _ _))) ⟨hgn.1, by have := hgcr.out.lt (by simp); omega⟩)
        go_upto_region 7 with ((go_at_call 92; ((with_reducible refine HON.out.mono ?_); rintro en w4 ⟨ht, ⟨⟨v0, v1, v2, v3, v4, v5, v6⟩, q4, hr, rfl, hc, hb⟩ | ⟨f, hr, rfl, hb⟩⟩ <;> have HR4 := Lib.hid hr <;> clear hr; all_goals (first | (have HGC4 := Lib.hid ((hgcr.out.next (by simp) (mid_alloc' (Below.refl _ _)) : Box (wr.alloc (.cells #[.int .i64 0, .int .i64 0, .int .i64 0, .int .i64 0, .int .i64 0, .int .i64 0, .int .i64 0] 118)) gc _).keep (by simp) ht (by have := hgcr.out.lt (by simp); have := hgn; simp; omega)); have HL4 := Lib.hid (hls.out.one ht hc); replace hb : Box w4 wr.heap.size [.int .i64 v0, .int .i64 v1, .int .i64 v2, .int .i64 v3, .int .i64 v4, .int .i64 v5, .int .i64 v6] := hb; have y0 := hb.cell (j := 0) rfl; have y1 := hb.cell (j := 1) rfl; have y2 := hb.cell (j := 2) rfl; have y3 := hb.cell (j := 3) rfl; have y4 := hb.cell (j := 4) rfl; have y5 := hb.cell (j := 5) rfl; have y6 := hb.cell (j := 6) rfl; have HX4 := Lib.hid hb; have k0 := HL4.out.box.cell (j := ox) (by rw [List.getElem?_set_self hox]); have kz := HL4.out.box.froz (j := ox) (by rw [List.length_set]; exact hox); have ea : gx < w4.heap.size := HL4.out.box.lt (by rw [List.length_set]; omega); have eb : wr.heap.size < w4.heap.size := HX4.out.lt (by simp); clear ht hc hb) | (have HL4 := Lib.hid (Keep.trans (hls.out.turn.next (Turn.below (mid_alloc' (Below.refl _ _)))) (ht.mono fun k _ e => by rcases e with e | e | e; exact .inl e; exact .inr (.inr (by have := hls.out.turn.size; omega)); exact .inr (.inr (by have := hls.out.turn.size; simp at e; omega))) : Turn g gx w w4); have HB4 := Lib.hid ((hls.out.box.next (by rw [List.length_set]; omega) (mid_alloc' (Below.refl _ _)) : Box (wr.alloc (.cells #[.int .i64 0, .int .i64 0, .int .i64 0, .int .i64 0, .int .i64 0, .int .i64 0, .int .i64 0] 118)) gx _).keep (by rw [List.length_set]; omega) ht (by have := hls.out.xl; have := hgx.ne; simp; omega)); clear ht hb)))))
        · have hDr : w.heap.size ≤ w4.heap.size := HL4.out.turn.size
          go_region_law (first
            | (refine step_far el_lea rfl (.tmp 33) (.tmp 35) rfl w.heap.size a1 xs.length c1 (xs.flatMap cellsWLea) rfl (Can.drew (HL4.out.can.alloc _)) (some ⟨w4.heap.size, 0, none⟩) 1 1 [.int .i64 v0, .int .i64 v1, .int .i64 v2, .int .i64 v3, .int .i64 v4, .int .i64 v5, .int .i64 v6] rfl rfl (Row.drew (Row.new _ _ _ _)) (by intro u hu; simp at hu; rcases hu with rfl | rfl | rfl | rfl | rfl | rfl | rfl <;> rfl) (by omega) (by simp; omega) (fun b o s e => ⟨(HL4.out.far b o s e).1, by have := (HL4.out.far b o s e).2; simp; omega⟩) ?_; intro a2 c2 w5 hcan2 hg2 hn2 hf2 hl2; have hst := HL4.out.push (((Below.refl _ _).alloc (Nat.le_refl _) _).drew) hcan2 hg2 hf2 hl2; have q0 := hst.2.1.cell (j := ox) (by rw [List.getElem?_set_self hox]); have q1z := hst.2.1.froz (j := ox) (by rw [List.length_set]; exact hox); have HST := Lib.hid hst; have HGC5 := Lib.hid (HGC4.out.block (HST.out.2.2 gc (HGC4.out.lt (by simp)) (fun o s e => by have := (HL4.out.far _ o s e).1; have := HGCW.out; omega)));  clear hst hcan2 hg2 hn2 hf2 hl2))
          all_goals
            clear q0 q1z
            go_wp2_with fail
            exact ⟨⟨xs ++ [(⟨v0, v1, v2, v3, v4, v5, v6⟩ : WLea)], q4, a2, c2, by simp; omega, by simp, by (show Ls _ _ _ _ _ _ _ _ _ _ _ _ _ _ _ _); rw [List.length_append, List.flatMap_append, List.flatMap_singleton]; exact HST.out.1, by (show _ = _); rw [List.length_append]; exact times_snoc htm.out HR4.out, HGC5.out.far (by show gx ≠ gc; exact fun e => hgn.2 e.symm) _⟩, by simp [intOf]; omega⟩
        · refine ⟨rfl, HL4.out, .inr ⟨_, ?_, rfl, .of HB4.out (by rw [List.length_set])⟩⟩
          (show bindP _ _ = _); rw [HR.out]
          exact times_fail htm.out HR4.out hlt
      · have hln : xs.length = n := by omega
        have HLN := Lib.hid hln
        have hd : decide (xs.length < n) = false := decide_eq_false hlt
        clear hln hlt
        go_wp2
        first | go_end0 | refine bodyPost_ret (results_none rfl _ _ _) rfl ?_
        refine ⟨hls.out.turn, .inl ⟨xs, q1, ?_, rfl, hls.out.cr, a1, c1, hls.out.box, ⟨hls.out.can.row, fun _ b o s e => (hls.out.far b o s e).1⟩, hls.out.can.le⟩⟩
        (show bindP _ _ = _); rw [HR.out, bindP_ok, ← HLN.out]; exact htm.out
  · exact ⟨rfl, HT1.out, .inr ⟨_, by (show bindP _ _ = _); rw [HR.out]; rfl, rfl, .of HX1.out rfl⟩⟩
end Go.Proofs.Ytlckgnemmffdkaa

/- Lists behind a writer's bytes: a list of Lea. (printed by gen_wirlist.py) -/
namespace Go.Proofs.Ytlckgnemmffdkaa
open Go.ChangeShapes Go.WideShapes Go.ChangeAt Go.RowKit
set_option maxRecDepth 100000

set_option maxHeartbeats 4000000 in
theorem listlea_w (D g gx ox c m kk : Nat) (gc : Nat) (a ad : Option Addr) (bs : List UInt8) (xs : List (WLea)) (w : World) (h : Cw w D g a c bs) (hD : D ≤ w.heap.size) (hx : w.cell? ⟨gx, ox, none⟩ = some (.slice ad m kk)) (hm : xs.length = m) (hr : LowRow g w ad (xs.flatMap cellsWLea)) (hgx : gx ≠ g) (hxa : ∀ o s, a ≠ some ⟨gx, o, s⟩) (hn : bs.length ≤ 1500000) (hsz : (xs.flatMap encWLea).length ≤ 1000000) (hm2 : m ≤ 1000000) (hgc : Box w gc [.pointer (some ⟨g, 0, none⟩)]) (hgn : gc ≠ g ∧ ∀ o s, a ≠ some ⟨gc, o, s⟩) :
    Calls Try.prog 91 #[.pointer (some ⟨g, 0, none⟩), .pointer (some ⟨gx, ox, none⟩), .int .i64 56, .func (.func 92) #[] #[.pointer (some ⟨gc, 0, none⟩)]] w (RetCw w D g a (bs ++ (be8 xs.length ++ xs.flatMap encWLea))) := by
  have HCO : Hid (Calls Try.prog 100 #[.pointer (some ⟨g, 0, none⟩), .int .i64 m, .int .i64 56] w (RetCount' w D g a m (bs ++ be8 (m : Int)))) := count_w D g c 56 m a bs w h hD (by omega)
  have HC := Lib.hid h
  have HX := Lib.hid (And.intro hx (And.intro hgx hxa))
  have HR := Lib.hid hr
  have HM := Lib.hid hm
  have hgxl := World.block_lt_of_cell? w _ hx
  have hlb : (bs ++ be8 (m : Int)).length ≤ 1500008 := by rw [List.length_append, be8_length]; omega
  have HTT := Lib.hid (show bs ++ (be8 xs.length ++ xs.flatMap encWLea) = (bs ++ be8 (m : Int)) ++ xs.flatMap encWLea by rw [hm, List.append_assoc])
  have HGC := Lib.hid (And.intro hgc hgn)
  clear hgc hgn
  clear h hgx hxa hr hm
  generalize bs ++ be8 (m : Int) = l1 at HCO HTT hlb
  go_enter Try.func91, Try.ntmps91
  go_wp2_with (go_at_call 100; ((with_reducible refine HCO.out.mono ?_); rintro e w1 ⟨a1, c1, rfl, hcw1, hgr1⟩; have y1 := grew_cell hgr1 HX.out.1 HX.out.2.1 HX.out.2.2; have y2 := hcw1.box.cell (j := 2) rfl; have HC1 := Lib.hid hcw1; have HG1 := Lib.hid hgr1; clear hcw1 hgr1))
  clear y1 y2
  go_loopw [43] (fun i wr => ∃ (k : Nat) (a3 : Option Addr) (c3 : Nat), k ≤ m ∧ i = .int .i64 k ∧ Hid (Cw wr D g a3 c3 (l1 ++ (xs.take k).flatMap encWLea)) ∧ Hid (Grew g a a3 w wr)) (fun i _ => m - (intOf i).toNat)
  case atStart => exact ⟨0, a1, c1, by omega, rfl, by show Cw _ _ _ _ _ _; simpa using HC1.out, HG1.out⟩
  case round =>
    obtain ⟨k, a3, c3, hk, rfl, hcw, hgr⟩ := hrel
    by_cases hlt : k < m
    · have hkx : k < xs.length := by rw [HM.out]; exact hlt
      have hDr : D ≤ wr.heap.size := Nat.le_trans hD hgr.out.size
      have y1 := grew_cell hgr.out HX.out.1 HX.out.2.1 HX.out.2.2
      have hrow := HR.out.grew HC.out hgr.out
      have HT := Lib.hid (show l1 ++ (xs.take (k + 1)).flatMap encWLea = (l1 ++ (xs.take k).flatMap encWLea) ++ encWLea (xs[k]'hkx) by rw [List.take_succ_eq_append_getElem hkx, List.flatMap_append, List.flatMap_singleton, List.append_assoc])
      have hll : (l1 ++ (xs.take k).flatMap encWLea).length ≤ 2600000 := by
        have h1 : xs.flatMap encWLea = (xs.take k).flatMap encWLea ++ (xs.drop k).flatMap encWLea := by rw [← List.flatMap_append, List.take_append_drop]
        have h2 := congrArg List.length h1
        rw [List.length_append] at h2
        rw [List.length_append]; omega
      obtain ⟨b, o, rfl, hcell⟩ := Row.at hrow.row (k := k * 7) (by rw [flatMap_len (cells := cellsWLea) (size := 7) (fun _ => rfl)]; have := Nat.mul_lt_mul_of_pos_right hkx (show 0 < 7 by decide); omega)
      have hce : ∀ r, r < 7 → wr.cell? ⟨b, o + k * 7 + r, none⟩ = (cellsWLea (xs[k]'hkx))[r]? := fun r hr => by
        have h1 := flatMap_at (cells := cellsWLea) (size := 7) (fun _ => rfl) (xs := xs) (i := k) hr
        rw [List.getElem?_eq_getElem hkx, Option.bind_some] at h1
        have h2 : k * 7 + r < (xs.flatMap cellsWLea).length := by
          rw [flatMap_len (cells := cellsWLea) (size := 7) (fun _ => rfl)]
          first | (simp only [Nat.mul_one]; omega) | (have := Nat.mul_le_mul_right 7 (Nat.succ_le_of_lt hkx); rw [Nat.succ_mul] at this; omega)
        have h3 := hcell (k * 7 + r) h2
        rw [Nat.add_assoc, h3, ← h1, List.getElem?_eq_getElem h2]
      generalize xs[k]'hkx = x at HT hce
      obtain ⟨v0, v1, v2, v3, v4, v5, v6⟩ := x
      have q0 := hce 0 (by decide)
      rw [show (cellsWLea (⟨v0, v1, v2, v3, v4, v5, v6⟩ : WLea))[0]? = some (.int .i64 v0) from rfl] at q0
      have q1 := hce 1 (by decide)
      rw [show (cellsWLea (⟨v0, v1, v2, v3, v4, v5, v6⟩ : WLea))[1]? = some (.int .i64 v1) from rfl] at q1
      have q2 := hce 2 (by decide)
      rw [show (cellsWLea (⟨v0, v1, v2, v3, v4, v5, v6⟩ : WLea))[2]? = some (.int .i64 v2) from rfl] at q2
      have q3 := hce 3 (by decide)
      rw [show (cellsWLea (⟨v0, v1, v2, v3, v4, v5, v6⟩ : WLea))[3]? = some (.int .i64 v3) from rfl] at q3
      have q4 := hce 4 (by decide)
      rw [show (cellsWLea (⟨v0, v1, v2, v3, v4, v5, v6⟩ : WLea))[4]? = some (.int .i64 v4) from rfl] at q4
      have q5 := hce 5 (by decide)
      rw [show (cellsWLea (⟨v0, v1, v2, v3, v4, v5, v6⟩ : WLea))[5]? = some (.int .i64 v5) from rfl] at q5
      have q6 := hce 6 (by decide)
      rw [show (cellsWLea (⟨v0, v1, v2, v3, v4, v5, v6⟩ : WLea))[6]? = some (.int .i64 v6) from rfl] at q6
      simp only [Nat.add_zero] at q0
      clear hce hcell hrow hkx
      have HON := Lib.hid (closlea_w D g wr.heap.size gc c3 a3 (l1 ++ (xs.take k).flatMap encWLea) ⟨v0, v1, v2, v3, v4, v5, v6⟩ (wr.alloc (.cells #[.int .i64 v0, .int .i64 v1, .int .i64 v2, .int .i64 v3, .int .i64 v4, .int .i64 v5, .int .i64 v6] 118)) (hcw.out.below (mid_alloc' (Below.refl _ _))) (by simp; omega) (Box.of_alloc (Below.refl _ _)) hcw.out.new.1 hcw.out.new.2 ((HGC.out.1.grew (by simp) hgr.out HGC.out.2.1 HGC.out.2.2).next (by simp) (mid_alloc' (Below.refl _ _))) HGC.out.2.1 (hgr.out.off (HGC.out.1.lt (by simp)) HGC.out.2.2) (by omega))
      go_wp2_with (go_at_call 92; ((with_reducible refine HON.out.mono ?_); rintro en w4 ⟨a4, c4, rfl, hcw4, hgr4⟩; have HC4 := Lib.hid hcw4; have HG4 := Lib.hid (hgr4.pre (mid_alloc' (Below.refl _ _))); clear hcw4 hgr4))
      exact ⟨⟨k + 1, a4, c4, by omega, by go_num, by show Cw _ _ _ _ _ _; rw [HT.out]; exact HC4.out, hgr.out.trans HG4.out⟩, by simp [intOf]; omega⟩
    · obtain rfl : k = m := by omega
      have hd : decide (k < k) = false := decide_eq_false (by omega)
      go_wp2
      first | go_end0 | refine bodyPost_ret (results_none rfl _ _ _) rfl ?_
      refine ⟨a3, c3, rfl, ?_, hgr.out⟩
      rw [HTT.out]
      have h := hcw.out
      rw [List.take_of_length_le (by rw [HM.out]; exact Nat.le_refl _)] at h; exact h
end Go.Proofs.Ytlckgnemmffdkaa

/- Lists read: a list of Ses. (printed by gen_wirlist.py) -/
namespace Go.Proofs.Ytlckgnemmffdkaa
open Go.ChangeShapes Go.WideShapes Go.ChangeAt Go.RowKit
set_option maxRecDepth 100000

theorem el_ses : Elem Try.prog 53 120 7 56 where
  under := Try.underlying53
  info := by
    have h : (Try.prog.info? 120).map (fun i => (i.zero.map fun z => (z.cells.size, z.cells.all (·.oneCell')), i.size, i.bytes)) = some (some (7, true), 7, 56) := by kernel_rfl
    cases hi : Try.prog.info? 120 with
    | none => rw [hi] at h; cases h
    | some i =>
      rw [hi, Option.map_some] at h
      cases hz : i.zero with
      | none => rw [hz] at h; simp at h
      | some z =>
        rw [hz] at h
        simp at h
        exact ⟨i, z, rfl, hz, h.2.1, h.2.2, h.1.1⟩
  pos := by decide
  bpos := by decide
def IsListSes (w0 : World) (gx ox : Nat) (cs : List Value) (xs : List WSes) (w' : World) : Prop := ∃ (a' : Option Addr) (c' : Nat), Box w' gx (cs.set ox (.slice a' xs.length c')) ∧ FarRow w0 w' a' (xs.flatMap cellsWSes) ∧ xs.length ≤ c'
set_option maxHeartbeats 8000000 in
theorem listses_t (g c p gx ox : Nat) (gc : Nat) (a : Option Addr) (bs : List UInt8) (cs : List Value) (w : World) (h : Cr w g a c bs p) (hl : bs.length ≤ 2000000) (hx : Box w gx cs) (hgx : Off g (rowA a bs) gx) (hox : ox < cs.length) (hv : cs[ox]? = some (.slice none 0 0)) (hgc : Box w gc [.pointer (some ⟨g, 0, none⟩)]) (hgn : gc ≠ g ∧ gc ≠ gx) :
    Calls Try.prog 93 #[.pointer (some ⟨g, 0, none⟩), .pointer (some ⟨gx, ox, none⟩), .int .i64 56, .func (.func 94) #[] #[.pointer (some ⟨gc, 0, none⟩)]] w (RetT w g gx cs.length a c bs (listP 56 wSesP bs p) (IsListSes w gx ox cs)) := by
  have x0 := hx.cell hv
  have hxl := hx.lt (by omega)
  have hgl := h.box.lt (by simp)
  have HCO : Hid (Calls Try.prog 100 #[.pointer (some ⟨g, 0, none⟩), .int .i64 0, .int .i64 56] w (RetCount w g a c bs (countP 56 bs p))) := count_t g c p 56 0 a bs w h hl (by omega) (by omega)
  have HX := Lib.hid hx
  have HE := Lib.hid (And.intro hxl hgl)
  have HV := Lib.hid hv
  have HGC := Lib.hid hgc
  have HGCW := Lib.hid (hgc.lt (by simp))
  clear hgc
  clear h hx hv
  go_enter Try.func93, Try.ntmps93
  go_wp2_with (go_at_call 100; ((with_reducible refine HCO.out.mono ?_); rintro e w1 ⟨ht, ⟨n, q, hr, rfl, hc⟩ | ⟨f, hr, rfl⟩⟩ <;> have HT1 := Lib.hid (Turn.of' (gx := gx) ht) <;> have HX1 := Lib.hid (HX.out.keep (by omega) ht (by have := HE.out.1; have := hgx.ne; omega)) <;> have HGC1 := Lib.hid (HGC.out.keep (by simp) ht (by have := HGC.out.lt (by simp); omega)) <;> have HR := Lib.hid hr <;> clear ht hr; all_goals (first | (have x1 := HX1.out.cell (List.getElem?_eq_getElem hox); have z1 := HX1.out.froz hox; have r2 := hc.box.cell (j := 2) rfl; have HC1 := Lib.hid hc; clear hc) | skip)))
  · have x2 := HX1.out.cell HV.out
    rw [setCell_id x2]
    have hid : cs.set ox (.slice none 0 0) = cs := List.set_getElem_self' HV.out
    have HL0 : Hid (Ls w w1 g gx ox a c bs q cs 120 7 none 0 0 []) := ⟨HC1.out, HT1.out, by rw [hid]; exact HX1.out, Can.nil _ _ _ _, (fun _ _ _ h => by cases h), HE.out.2, HE.out.1, hgx, hox⟩
    have hnq := count_le HR.out
    have hnl : n ≤ 2000000 := Nat.le_trans hnq (Nat.le_trans (Nat.div_le_self _ _) (by omega))
    clear x0 x1 x2 z1 r2 hid HX1 HT1 HC1 hnq
    go_loopw [26] (fun i wr => ∃ (xs : List WSes) (q1 : Nat) (a1 : Option Addr) (c1 : Nat), xs.length ≤ n ∧ i = .int .i64 xs.length ∧ Hid (Ls w wr g gx ox a c bs q1 cs 120 7 a1 xs.length c1 (xs.flatMap cellsWSes)) ∧ Hid (timesP wSesP xs.length bs q = .ok (xs, q1)) ∧ Hid (Box wr gc [.pointer (some ⟨g, 0, none⟩)])) (fun i _ => n - (intOf i).toNat)
    case atStart => exact ⟨[], q, none, 0, by simp, rfl, HL0.out, rfl, HGC1.out⟩
    case round =>
      obtain ⟨xs, q1, a1, c1, hk, rfl, hls, htm, hgcr⟩ := hrel
      by_cases hlt : xs.length < n
      · have ht' := hls.out.turn.size
        have hoffX : Off g (rowA a bs) wr.heap.size := hls.out.cr.new (Nat.le_refl _)
        have HON := Lib.hid (closses_t g c q1 wr.heap.size gc a bs (wr.alloc (.cells #[.int .i64 0, .int .i64 0, .int .i64 0, .int .i64 0, .int .i64 0, .int .i64 0, .int .i64 0] 120)) (hls.out.cr.below (mid_alloc' (Below.refl _ _))) hl (Box.of_alloc (Below.refl _ _)) hoffX (hgcr.out.next (by simp) (mid_alloc' (Below.refl _ _))) ⟨hgn.1, by have := hgcr.out.lt (by simp); omega⟩)
        go_upto_region 7 with ((go_at_call 94; ((with_reducible refine HON.out.mono ?_); rintro en w4 ⟨ht, ⟨⟨v0, v1, ⟨v2, v3, v4, v5, v6⟩⟩, q4, hr, rfl, hc, hb⟩ | ⟨f, hr, rfl, hb⟩⟩ <;> have HR4 := Lib.hid hr <;> clear hr; all_goals (first | (have HGC4 := Lib.hid ((hgcr.out.next (by simp) (mid_alloc' (Below.refl _ _)) : Box (wr.alloc (.cells #[.int .i64 0, .int .i64 0, .int .i64 0, .int .i64 0, .int .i64 0, .int .i64 0, .int .i64 0] 120)) gc _).keep (by simp) ht (by have := hgcr.out.lt (by simp); have := hgn; simp; omega)); have HL4 := Lib.hid (hls.out.one ht hc); replace hb : Box w4 wr.heap.size [.int .i64 v0, .int .i64 v1, .int .i64 v2, .int .i64 v3, .int .i64 v4, .int .i64 v5, .int .i64 v6] := hb; have y0 := hb.cell (j := 0) rfl; have y1 := hb.cell (j := 1) rfl; have y2 := hb.cell (j := 2) rfl; have y3 := hb.cell (j := 3) rfl; have y4 := hb.cell (j := 4) rfl; have y5 := hb.cell (j := 5) rfl; have y6 := hb.cell (j := 6) rfl; have HX4 := Lib.hid hb; have k0 := HL4.out.box.cell (j := ox) (by rw [List.getElem?_set_self hox]); have kz := HL4.out.box.froz (j := ox) (by rw [List.length_set]; exact hox); have ea : gx < w4.heap.size := HL4.out.box.lt (by rw [List.length_set]; omega); have eb : wr.heap.size < w4.heap.size := HX4.out.lt (by simp); clear ht hc hb) | (have HL4 := Lib.hid (Keep.trans (hls.out.turn.next (Turn.below (mid_alloc' (Below.refl _ _)))) (ht.mono fun k _ e => by rcases e with e | e | e; exact .inl e; exact .inr (.inr (by have := hls.out.turn.size; omega)); exact .inr (.inr (by have := hls.out.turn.size; simp at e; omega))) : Turn g gx w w4); have HB4 := Lib.hid ((hls.out.box.next (by rw [List.length_set]; omega) (mid_alloc' (Below.refl _ _)) : Box (wr.alloc (.cells #[.int .i64 0, .int .i64 0, .int .i64 0, .int .i64 0, .int .i64 0, .int .i64 0, .int .i64 0] 120)) gx _).keep (by rw [List.length_set]; omega) ht (by have := hls.out.xl; have := hgx.ne; simp; omega)); clear ht hb)))))
        · have hDr : w.heap.size ≤ w4.heap.size := HL4.out.turn.size
          go_region_law (first
            | (refine step_far el_ses rfl (.tmp 33) (.tmp 35) rfl w.heap.size a1 xs.length c1 (xs.flatMap cellsWSes) rfl (Can.drew (HL4.out.can.alloc _)) (some ⟨w4.heap.size, 0, none⟩) 1 1 [.int .i64 v0, .int .i64 v1, .int .i64 v2, .int .i64 v3, .int .i64 v4, .int .i64 v5, .int .i64 v6] rfl rfl (Row.drew (Row.new _ _ _ _)) (by intro u hu; simp at hu; rcases hu with rfl | rfl | rfl | rfl | rfl | rfl | rfl <;> rfl) (by omega) (by simp; omega) (fun b o s e => ⟨(HL4.out.far b o s e).1, by have := (HL4.out.far b o s e).2; simp; omega⟩) ?_; intro a2 c2 w5 hcan2 hg2 hn2 hf2 hl2; have hst := HL4.out.push (((Below.refl _ _).alloc (Nat.le_refl _) _).drew) hcan2 hg2 hf2 hl2; have q0 := hst.2.1.cell (j := ox) (by rw [List.getElem?_set_self hox]); have q1z := hst.2.1.froz (j := ox) (by rw [List.length_set]; exact hox); have HST := Lib.hid hst; have HGC5 := Lib.hid (HGC4.out.block (HST.out.2.2 gc (HGC4.out.lt (by simp)) (fun o s e => by have := (HL4.out.far _ o s e).1; have := HGCW.out; omega)));  clear hst hcan2 hg2 hn2 hf2 hl2))
          all_goals
            clear q0 q1z
            go_wp2_with fail
            exact ⟨⟨xs ++ [(⟨v0, v1, ⟨v2, v3, v4, v5, v6⟩⟩ : WSes)], q4, a2, c2, by simp; omega, by simp, by (show Ls _ _ _ _ _ _ _ _ _ _ _ _ _ _ _ _); rw [List.length_append, List.flatMap_append, List.flatMap_singleton]; exact HST.out.1, by (show _ = _); rw [List.length_append]; exact times_snoc htm.out HR4.out, HGC5.out.far (by show gx ≠ gc; exact fun e => hgn.2 e.symm) _⟩, by simp [intOf]; omega⟩
        · refine ⟨rfl, HL4.out, .inr ⟨_, ?_, rfl, .of HB4.out (by rw [List.length_set])⟩⟩
          (show bindP _ _ = _); rw [HR.out]
          exact times_fail htm.out HR4.out hlt
      · have hln : xs.length = n := by omega
        have HLN := Lib.hid hln
        have hd : decide (xs.length < n) = false := decide_eq_false hlt
        clear hln hlt
        go_wp2
        first | go_end0 | refine bodyPost_ret (results_none rfl _ _ _) rfl ?_
        refine ⟨hls.out.turn, .inl ⟨xs, q1, ?_, rfl, hls.out.cr, a1, c1, hls.out.box, ⟨hls.out.can.row, fun _ b o s e => (hls.out.far b o s e).1⟩, hls.out.can.le⟩⟩
        (show bindP _ _ = _); rw [HR.out, bindP_ok, ← HLN.out]; exact htm.out
  · exact ⟨rfl, HT1.out, .inr ⟨_, by (show bindP _ _ = _); rw [HR.out]; rfl, rfl, .of HX1.out rfl⟩⟩
end Go.Proofs.Ytlckgnemmffdkaa

/- Lists behind a writer's bytes: a list of Ses. (printed by gen_wirlist.py) -/
namespace Go.Proofs.Ytlckgnemmffdkaa
open Go.ChangeShapes Go.WideShapes Go.ChangeAt Go.RowKit
set_option maxRecDepth 100000

set_option maxHeartbeats 4000000 in
theorem listses_w (D g gx ox c m kk : Nat) (gc : Nat) (a ad : Option Addr) (bs : List UInt8) (xs : List (WSes)) (w : World) (h : Cw w D g a c bs) (hD : D ≤ w.heap.size) (hx : w.cell? ⟨gx, ox, none⟩ = some (.slice ad m kk)) (hm : xs.length = m) (hr : LowRow g w ad (xs.flatMap cellsWSes)) (hgx : gx ≠ g) (hxa : ∀ o s, a ≠ some ⟨gx, o, s⟩) (hn : bs.length ≤ 1500000) (hsz : (xs.flatMap encWSes).length ≤ 1000000) (hm2 : m ≤ 1000000) (hgc : Box w gc [.pointer (some ⟨g, 0, none⟩)]) (hgn : gc ≠ g ∧ ∀ o s, a ≠ some ⟨gc, o, s⟩) :
    Calls Try.prog 93 #[.pointer (some ⟨g, 0, none⟩), .pointer (some ⟨gx, ox, none⟩), .int .i64 56, .func (.func 94) #[] #[.pointer (some ⟨gc, 0, none⟩)]] w (RetCw w D g a (bs ++ (be8 xs.length ++ xs.flatMap encWSes))) := by
  have HCO : Hid (Calls Try.prog 100 #[.pointer (some ⟨g, 0, none⟩), .int .i64 m, .int .i64 56] w (RetCount' w D g a m (bs ++ be8 (m : Int)))) := count_w D g c 56 m a bs w h hD (by omega)
  have HC := Lib.hid h
  have HX := Lib.hid (And.intro hx (And.intro hgx hxa))
  have HR := Lib.hid hr
  have HM := Lib.hid hm
  have hgxl := World.block_lt_of_cell? w _ hx
  have hlb : (bs ++ be8 (m : Int)).length ≤ 1500008 := by rw [List.length_append, be8_length]; omega
  have HTT := Lib.hid (show bs ++ (be8 xs.length ++ xs.flatMap encWSes) = (bs ++ be8 (m : Int)) ++ xs.flatMap encWSes by rw [hm, List.append_assoc])
  have HGC := Lib.hid (And.intro hgc hgn)
  clear hgc hgn
  clear h hgx hxa hr hm
  generalize bs ++ be8 (m : Int) = l1 at HCO HTT hlb
  go_enter Try.func93, Try.ntmps93
  go_wp2_with (go_at_call 100; ((with_reducible refine HCO.out.mono ?_); rintro e w1 ⟨a1, c1, rfl, hcw1, hgr1⟩; have y1 := grew_cell hgr1 HX.out.1 HX.out.2.1 HX.out.2.2; have y2 := hcw1.box.cell (j := 2) rfl; have HC1 := Lib.hid hcw1; have HG1 := Lib.hid hgr1; clear hcw1 hgr1))
  clear y1 y2
  go_loopw [43] (fun i wr => ∃ (k : Nat) (a3 : Option Addr) (c3 : Nat), k ≤ m ∧ i = .int .i64 k ∧ Hid (Cw wr D g a3 c3 (l1 ++ (xs.take k).flatMap encWSes)) ∧ Hid (Grew g a a3 w wr)) (fun i _ => m - (intOf i).toNat)
  case atStart => exact ⟨0, a1, c1, by omega, rfl, by show Cw _ _ _ _ _ _; simpa using HC1.out, HG1.out⟩
  case round =>
    obtain ⟨k, a3, c3, hk, rfl, hcw, hgr⟩ := hrel
    by_cases hlt : k < m
    · have hkx : k < xs.length := by rw [HM.out]; exact hlt
      have hDr : D ≤ wr.heap.size := Nat.le_trans hD hgr.out.size
      have y1 := grew_cell hgr.out HX.out.1 HX.out.2.1 HX.out.2.2
      have hrow := HR.out.grew HC.out hgr.out
      have HT := Lib.hid (show l1 ++ (xs.take (k + 1)).flatMap encWSes = (l1 ++ (xs.take k).flatMap encWSes) ++ encWSes (xs[k]'hkx) by rw [List.take_succ_eq_append_getElem hkx, List.flatMap_append, List.flatMap_singleton, List.append_assoc])
      have hll : (l1 ++ (xs.take k).flatMap encWSes).length ≤ 2600000 := by
        have h1 : xs.flatMap encWSes = (xs.take k).flatMap encWSes ++ (xs.drop k).flatMap encWSes := by rw [← List.flatMap_append, List.take_append_drop]
        have h2 := congrArg List.length h1
        rw [List.length_append] at h2
        rw [List.length_append]; omega
      obtain ⟨b, o, rfl, hcell⟩ := Row.at hrow.row (k := k * 7) (by rw [flatMap_len (cells := cellsWSes) (size := 7) (fun _ => rfl)]; have := Nat.mul_lt_mul_of_pos_right hkx (show 0 < 7 by decide); omega)
      have hce : ∀ r, r < 7 → wr.cell? ⟨b, o + k * 7 + r, none⟩ = (cellsWSes (xs[k]'hkx))[r]? := fun r hr => by
        have h1 := flatMap_at (cells := cellsWSes) (size := 7) (fun _ => rfl) (xs := xs) (i := k) hr
        rw [List.getElem?_eq_getElem hkx, Option.bind_some] at h1
        have h2 : k * 7 + r < (xs.flatMap cellsWSes).length := by
          rw [flatMap_len (cells := cellsWSes) (size := 7) (fun _ => rfl)]
          first | (simp only [Nat.mul_one]; omega) | (have := Nat.mul_le_mul_right 7 (Nat.succ_le_of_lt hkx); rw [Nat.succ_mul] at this; omega)
        have h3 := hcell (k * 7 + r) h2
        rw [Nat.add_assoc, h3, ← h1, List.getElem?_eq_getElem h2]
      generalize xs[k]'hkx = x at HT hce
      obtain ⟨v0, v1, ⟨v2, v3, v4, v5, v6⟩⟩ := x
      have q0 := hce 0 (by decide)
      rw [show (cellsWSes (⟨v0, v1, ⟨v2, v3, v4, v5, v6⟩⟩ : WSes))[0]? = some (.int .i64 v0) from rfl] at q0
      have q1 := hce 1 (by decide)
      rw [show (cellsWSes (⟨v0, v1, ⟨v2, v3, v4, v5, v6⟩⟩ : WSes))[1]? = some (.int .i64 v1) from rfl] at q1
      have q2 := hce 2 (by decide)
      rw [show (cellsWSes (⟨v0, v1, ⟨v2, v3, v4, v5, v6⟩⟩ : WSes))[2]? = some (.int .i64 v2) from rfl] at q2
      have q3 := hce 3 (by decide)
      rw [show (cellsWSes (⟨v0, v1, ⟨v2, v3, v4, v5, v6⟩⟩ : WSes))[3]? = some (.int .i64 v3) from rfl] at q3
      have q4 := hce 4 (by decide)
      rw [show (cellsWSes (⟨v0, v1, ⟨v2, v3, v4, v5, v6⟩⟩ : WSes))[4]? = some (.int .i64 v4) from rfl] at q4
      have q5 := hce 5 (by decide)
      rw [show (cellsWSes (⟨v0, v1, ⟨v2, v3, v4, v5, v6⟩⟩ : WSes))[5]? = some (.int .i64 v5) from rfl] at q5
      have q6 := hce 6 (by decide)
      rw [show (cellsWSes (⟨v0, v1, ⟨v2, v3, v4, v5, v6⟩⟩ : WSes))[6]? = some (.int .i64 v6) from rfl] at q6
      simp only [Nat.add_zero] at q0
      clear hce hcell hrow hkx
      have HON := Lib.hid (closses_w D g wr.heap.size gc c3 a3 (l1 ++ (xs.take k).flatMap encWSes) ⟨v0, v1, ⟨v2, v3, v4, v5, v6⟩⟩ (wr.alloc (.cells #[.int .i64 v0, .int .i64 v1, .int .i64 v2, .int .i64 v3, .int .i64 v4, .int .i64 v5, .int .i64 v6] 120)) (hcw.out.below (mid_alloc' (Below.refl _ _))) (by simp; omega) (Box.of_alloc (Below.refl _ _)) hcw.out.new.1 hcw.out.new.2 ((HGC.out.1.grew (by simp) hgr.out HGC.out.2.1 HGC.out.2.2).next (by simp) (mid_alloc' (Below.refl _ _))) HGC.out.2.1 (hgr.out.off (HGC.out.1.lt (by simp)) HGC.out.2.2) (by omega))
      go_wp2_with (go_at_call 94; ((with_reducible refine HON.out.mono ?_); rintro en w4 ⟨a4, c4, rfl, hcw4, hgr4⟩; have HC4 := Lib.hid hcw4; have HG4 := Lib.hid (hgr4.pre (mid_alloc' (Below.refl _ _))); clear hcw4 hgr4))
      exact ⟨⟨k + 1, a4, c4, by omega, by go_num, by show Cw _ _ _ _ _ _; rw [HT.out]; exact HC4.out, hgr.out.trans HG4.out⟩, by simp [intOf]; omega⟩
    · obtain rfl : k = m := by omega
      have hd : decide (k < k) = false := decide_eq_false (by omega)
      go_wp2
      first | go_end0 | refine bodyPost_ret (results_none rfl _ _ _) rfl ?_
      refine ⟨a3, c3, rfl, ?_, hgr.out⟩
      rw [HTT.out]
      have h := hcw.out
      rw [List.take_of_length_le (by rw [HM.out]; exact Nat.le_refl _)] at h; exact h
end Go.Proofs.Ytlckgnemmffdkaa

/- Lists read: a list of Dsk. (printed by gen_wirlist.py) -/
namespace Go.Proofs.Ytlckgnemmffdkaa
open Go.ChangeShapes Go.WideShapes Go.ChangeAt Go.RowKit
set_option maxRecDepth 100000

theorem el_dsk : Elem Try.prog 54 122 8 64 where
  under := Try.underlying54
  info := by
    have h : (Try.prog.info? 122).map (fun i => (i.zero.map fun z => (z.cells.size, z.cells.all (·.oneCell')), i.size, i.bytes)) = some (some (8, true), 8, 64) := by kernel_rfl
    cases hi : Try.prog.info? 122 with
    | none => rw [hi] at h; cases h
    | some i =>
      rw [hi, Option.map_some] at h
      cases hz : i.zero with
      | none => rw [hz] at h; simp at h
      | some z =>
        rw [hz] at h
        simp at h
        exact ⟨i, z, rfl, hz, h.2.1, h.2.2, h.1.1⟩
  pos := by decide
  bpos := by decide
def IsListDsk (w0 : World) (gx ox : Nat) (cs : List Value) (xs : List WDsk) (w' : World) : Prop := ∃ (a' : Option Addr) (c' : Nat), Box w' gx (cs.set ox (.slice a' xs.length c')) ∧ FarRow w0 w' a' (xs.flatMap cellsWDsk) ∧ xs.length ≤ c'
set_option maxHeartbeats 8000000 in
theorem listdsk_t (g c p gx ox : Nat) (gc : Nat) (a : Option Addr) (bs : List UInt8) (cs : List Value) (w : World) (h : Cr w g a c bs p) (hl : bs.length ≤ 2000000) (hx : Box w gx cs) (hgx : Off g (rowA a bs) gx) (hox : ox < cs.length) (hv : cs[ox]? = some (.slice none 0 0)) (hgc : Box w gc [.pointer (some ⟨g, 0, none⟩)]) (hgn : gc ≠ g ∧ gc ≠ gx) :
    Calls Try.prog 95 #[.pointer (some ⟨g, 0, none⟩), .pointer (some ⟨gx, ox, none⟩), .int .i64 64, .func (.func 96) #[] #[.pointer (some ⟨gc, 0, none⟩)]] w (RetT w g gx cs.length a c bs (listP 64 wDskP bs p) (IsListDsk w gx ox cs)) := by
  have x0 := hx.cell hv
  have hxl := hx.lt (by omega)
  have hgl := h.box.lt (by simp)
  have HCO : Hid (Calls Try.prog 100 #[.pointer (some ⟨g, 0, none⟩), .int .i64 0, .int .i64 64] w (RetCount w g a c bs (countP 64 bs p))) := count_t g c p 64 0 a bs w h hl (by omega) (by omega)
  have HX := Lib.hid hx
  have HE := Lib.hid (And.intro hxl hgl)
  have HV := Lib.hid hv
  have HGC := Lib.hid hgc
  have HGCW := Lib.hid (hgc.lt (by simp))
  clear hgc
  clear h hx hv
  go_enter Try.func95, Try.ntmps95
  go_wp2_with (go_at_call 100; ((with_reducible refine HCO.out.mono ?_); rintro e w1 ⟨ht, ⟨n, q, hr, rfl, hc⟩ | ⟨f, hr, rfl⟩⟩ <;> have HT1 := Lib.hid (Turn.of' (gx := gx) ht) <;> have HX1 := Lib.hid (HX.out.keep (by omega) ht (by have := HE.out.1; have := hgx.ne; omega)) <;> have HGC1 := Lib.hid (HGC.out.keep (by simp) ht (by have := HGC.out.lt (by simp); omega)) <;> have HR := Lib.hid hr <;> clear ht hr; all_goals (first | (have x1 := HX1.out.cell (List.getElem?_eq_getElem hox); have z1 := HX1.out.froz hox; have r2 := hc.box.cell (j := 2) rfl; have HC1 := Lib.hid hc; clear hc) | skip)))
  · have x2 := HX1.out.cell HV.out
    rw [setCell_id x2]
    have hid : cs.set ox (.slice none 0 0) = cs := List.set_getElem_self' HV.out
    have HL0 : Hid (Ls w w1 g gx ox a c bs q cs 122 8 none 0 0 []) := ⟨HC1.out, HT1.out, by rw [hid]; exact HX1.out, Can.nil _ _ _ _, (fun _ _ _ h => by cases h), HE.out.2, HE.out.1, hgx, hox⟩
    have hnq := count_le HR.out
    have hnl : n ≤ 2000000 := Nat.le_trans hnq (Nat.le_trans (Nat.div_le_self _ _) (by omega))
    clear x0 x1 x2 z1 r2 hid HX1 HT1 HC1 hnq
    go_loopw [26] (fun i wr => ∃ (xs : List WDsk) (q1 : Nat) (a1 : Option Addr) (c1 : Nat), xs.length ≤ n ∧ i = .int .i64 xs.length ∧ Hid (Ls w wr g gx ox a c bs q1 cs 122 8 a1 xs.length c1 (xs.flatMap cellsWDsk)) ∧ Hid (timesP wDskP xs.length bs q = .ok (xs, q1)) ∧ Hid (Box wr gc [.pointer (some ⟨g, 0, none⟩)])) (fun i _ => n - (intOf i).toNat)
    case atStart => exact ⟨[], q, none, 0, by simp, rfl, HL0.out, rfl, HGC1.out⟩
    case round =>
      obtain ⟨xs, q1, a1, c1, hk, rfl, hls, htm, hgcr⟩ := hrel
      by_cases hlt : xs.length < n
      · have ht' := hls.out.turn.size
        have hoffX : Off g (rowA a bs) wr.heap.size := hls.out.cr.new (Nat.le_refl _)
        have HON := Lib.hid (closdsk_t g c q1 wr.heap.size gc a bs (wr.alloc (.cells #[.int .i64 0, .int .i64 0, .int .i64 0, .int .i64 0, .int .i64 0, .int .i64 0, .int .i64 0, .int .i64 0] 122)) (hls.out.cr.below (mid_alloc' (Below.refl _ _))) hl (Box.of_alloc (Below.refl _ _)) hoffX (hgcr.out.next (by simp) (mid_alloc' (Below.refl _ _))) ⟨hgn.1, by have := hgcr.out.lt (by simp); omega⟩)
        go_upto_region 7 with ((go_at_call 96; ((with_reducible refine HON.out.mono ?_); rintro en w4 ⟨ht, ⟨⟨v0, v1, v2, ⟨v3, v4, v5, v6, v7⟩⟩, q4, hr, rfl, hc, hb⟩ | ⟨f, hr, rfl, hb⟩⟩ <;> have HR4 := Lib.hid hr <;> clear hr; all_goals (first | (have HGC4 := Lib.hid ((hgcr.out.next (by simp) (mid_alloc' (Below.refl _ _)) : Box (wr.alloc (.cells #[.int .i64 0, .int .i64 0, .int .i64 0, .int .i64 0, .int .i64 0, .int .i64 0, .int .i64 0, .int .i64 0] 122)) gc _).keep (by simp) ht (by have := hgcr.out.lt (by simp); have := hgn; simp; omega)); have HL4 := Lib.hid (hls.out.one ht hc); replace hb : Box w4 wr.heap.size [.int .i64 v0, .int .i64 v1, .int .i64 v2, .int .i64 v3, .int .i64 v4, .int .i64 v5, .int .i64 v6, .int .i64 v7] := hb; have y0 := hb.cell (j := 0) rfl; have y1 := hb.cell (j := 1) rfl; have y2 := hb.cell (j := 2) rfl; have y3 := hb.cell (j := 3) rfl; have y4 := hb.cell (j := 4) rfl; have y5 := hb.cell (j := 5) rfl; have y6 := hb.cell (j := 6) rfl; have y7 := hb.cell (j := 7) rfl; have HX4 := Lib.hid hb; have k0 := HL4.out.box.cell (j := ox) (by rw [List.getElem?_set_self hox]); have kz := HL4.out.box.froz (j := ox) (by rw [List.length_set]; exact hox); have ea : gx < w4.heap.size := HL4.out.box.lt (by rw [List.length_set]; omega); have eb : wr.heap.size < w4.heap.size := HX4.out.lt (by simp); clear ht hc hb) | (have HL4 := Lib.hid (Keep.trans (hls.out.turn.next (Turn.below (mid_alloc' (Below.refl _ _)))) (ht.mono fun k _ e => by rcases e with e | e | e; exact .inl e; exact .inr (.inr (by have := hls.out.turn.size; omega)); exact .inr (.inr (by have := hls.out.turn.size; simp at e; omega))) : Turn g gx w w4); have HB4 := Lib.hid ((hls.out.box.next (by rw [List.length_set]; omega) (mid_alloc' (Below.refl _ _)) : Box (wr.alloc (.cells #[.int .i64 0, .int .i64 0, .int .i64 0, .int .i64 0, .int .i64 0, .int .i64 0, .int .i64 0, .int .i64 0] 122)) gx _).keep (by rw [List.length_set]; omega) ht (by have := hls.out.xl; have := hgx.ne; simp; omega)); clear ht hb)))))
        · have hDr : w.heap.size ≤ w4.heap.size := HL4.out.turn.size
          go_region_law (first
            | (refine step_far el_dsk rfl (.tmp 33) (.tmp 35) rfl w.heap.size a1 xs.length c1 (xs.flatMap cellsWDsk) rfl (Can.drew (HL4.out.can.alloc _)) (some ⟨w4.heap.size, 0, none⟩) 1 1 [.int .i64 v0, .int .i64 v1, .int .i64 v2, .int .i64 v3, .int .i64 v4, .int .i64 v5, .int .i64 v6, .int .i64 v7] rfl rfl (Row.drew (Row.new _ _ _ _)) (by intro u hu; simp at hu; rcases hu with rfl | rfl | rfl | rfl | rfl | rfl | rfl | rfl <;> rfl) (by omega) (by simp; omega) (fun b o s e => ⟨(HL4.out.far b o s e).1, by have := (HL4.out.far b o s e).2; simp; omega⟩) ?_; intro a2 c2 w5 hcan2 hg2 hn2 hf2 hl2; have hst := HL4.out.push (((Below.refl _ _).alloc (Nat.le_refl _) _).drew) hcan2 hg2 hf2 hl2; have q0 := hst.2.1.cell (j := ox) (by rw [List.getElem?_set_self hox]); have q1z := hst.2.1.froz (j := ox) (by rw [List.length_set]; exact hox); have HST := Lib.hid hst; have HGC5 := Lib.hid (HGC4.out.block (HST.out.2.2 gc (HGC4.out.lt (by simp)) (fun o s e => by have := (HL4.out.far _ o s e).1; have := HGCW.out; omega)));  clear hst hcan2 hg2 hn2 hf2 hl2))
          all_goals
            clear q0 q1z
            go_wp2_with fail
            exact ⟨⟨xs ++ [(⟨v0, v1, v2, ⟨v3, v4, v5, v6, v7⟩⟩ : WDsk)], q4, a2, c2, by simp; omega, by simp, by (show Ls _ _ _ _ _ _ _ _ _ _ _ _ _ _ _ _); rw [List.length_append, List.flatMap_append, List.flatMap_singleton]; exact HST.out.1, by (show _ = _); rw [List.length_append]; exact times_snoc htm.out HR4.out, HGC5.out.far (by show gx ≠ gc; exact fun e => hgn.2 e.symm) _⟩, by simp [intOf]; omega⟩
        · refine ⟨rfl, HL4.out, .inr ⟨_, ?_, rfl, .of HB4.out (by rw [List.length_set])⟩⟩
          (show bindP _ _ = _); rw [HR.out]
          exact times_fail htm.out HR4.out hlt
      · have hln : xs.length = n := by omega
        have HLN := Lib.hid hln
        have hd : decide (xs.length < n) = false := decide_eq_false hlt
        clear hln hlt
        go_wp2
        first | go_end0 | refine bodyPost_ret (results_none rfl _ _ _) rfl ?_
        refine ⟨hls.out.turn, .inl ⟨xs, q1, ?_, rfl, hls.out.cr, a1, c1, hls.out.box, ⟨hls.out.can.row, fun _ b o s e => (hls.out.far b o s e).1⟩, hls.out.can.le⟩⟩
        (show bindP _ _ = _); rw [HR.out, bindP_ok, ← HLN.out]; exact htm.out
  · exact ⟨rfl, HT1.out, .inr ⟨_, by (show bindP _ _ = _); rw [HR.out]; rfl, rfl, .of HX1.out rfl⟩⟩
end Go.Proofs.Ytlckgnemmffdkaa

/- Lists behind a writer's bytes: a list of Dsk. (printed by gen_wirlist.py) -/
namespace Go.Proofs.Ytlckgnemmffdkaa
open Go.ChangeShapes Go.WideShapes Go.ChangeAt Go.RowKit
set_option maxRecDepth 100000

set_option maxHeartbeats 4000000 in
theorem listdsk_w (D g gx ox c m kk : Nat) (gc : Nat) (a ad : Option Addr) (bs : List UInt8) (xs : List (WDsk)) (w : World) (h : Cw w D g a c bs) (hD : D ≤ w.heap.size) (hx : w.cell? ⟨gx, ox, none⟩ = some (.slice ad m kk)) (hm : xs.length = m) (hr : LowRow g w ad (xs.flatMap cellsWDsk)) (hgx : gx ≠ g) (hxa : ∀ o s, a ≠ some ⟨gx, o, s⟩) (hn : bs.length ≤ 1500000) (hsz : (xs.flatMap encWDsk).length ≤ 1000000) (hm2 : m ≤ 1000000) (hgc : Box w gc [.pointer (some ⟨g, 0, none⟩)]) (hgn : gc ≠ g ∧ ∀ o s, a ≠ some ⟨gc, o, s⟩) :
    Calls Try.prog 95 #[.pointer (some ⟨g, 0, none⟩), .pointer (some ⟨gx, ox, none⟩), .int .i64 64, .func (.func 96) #[] #[.pointer (some ⟨gc, 0, none⟩)]] w (RetCw w D g a (bs ++ (be8 xs.length ++ xs.flatMap encWDsk))) := by
  have HCO : Hid (Calls Try.prog 100 #[.pointer (some ⟨g, 0, none⟩), .int .i64 m, .int .i64 64] w (RetCount' w D g a m (bs ++ be8 (m : Int)))) := count_w D g c 64 m a bs w h hD (by omega)
  have HC := Lib.hid h
  have HX := Lib.hid (And.intro hx (And.intro hgx hxa))
  have HR := Lib.hid hr
  have HM := Lib.hid hm
  have hgxl := World.block_lt_of_cell? w _ hx
  have hlb : (bs ++ be8 (m : Int)).length ≤ 1500008 := by rw [List.length_append, be8_length]; omega
  have HTT := Lib.hid (show bs ++ (be8 xs.length ++ xs.flatMap encWDsk) = (bs ++ be8 (m : Int)) ++ xs.flatMap encWDsk by rw [hm, List.append_assoc])
  have HGC := Lib.hid (And.intro hgc hgn)
  clear hgc hgn
  clear h hgx hxa hr hm
  generalize bs ++ be8 (m : Int) = l1 at HCO HTT hlb
  go_enter Try.func95, Try.ntmps95
  go_wp2_with (go_at_call 100; ((with_reducible refine HCO.out.mono ?_); rintro e w1 ⟨a1, c1, rfl, hcw1, hgr1⟩; have y1 := grew_cell hgr1 HX.out.1 HX.out.2.1 HX.out.2.2; have y2 := hcw1.box.cell (j := 2) rfl; have HC1 := Lib.hid hcw1; have HG1 := Lib.hid hgr1; clear hcw1 hgr1))
  clear y1 y2
  go_loopw [43] (fun i wr => ∃ (k : Nat) (a3 : Option Addr) (c3 : Nat), k ≤ m ∧ i = .int .i64 k ∧ Hid (Cw wr D g a3 c3 (l1 ++ (xs.take k).flatMap encWDsk)) ∧ Hid (Grew g a a3 w wr)) (fun i _ => m - (intOf i).toNat)
  case atStart => exact ⟨0, a1, c1, by omega, rfl, by show Cw _ _ _ _ _ _; simpa using HC1.out, HG1.out⟩
  case round =>
    obtain ⟨k, a3, c3, hk, rfl, hcw, hgr⟩ := hrel
    by_cases hlt : k < m
    · have hkx : k < xs.length := by rw [HM.out]; exact hlt
      have hDr : D ≤ wr.heap.size := Nat.le_trans hD hgr.out.size
      have y1 := grew_cell hgr.out HX.out.1 HX.out.2.1 HX.out.2.2
      have hrow := HR.out.grew HC.out hgr.out
      have HT := Lib.hid (show l1 ++ (xs.take (k + 1)).flatMap encWDsk = (l1 ++ (xs.take k).flatMap encWDsk) ++ encWDsk (xs[k]'hkx) by rw [List.take_succ_eq_append_getElem hkx, List.flatMap_append, List.flatMap_singleton, List.append_assoc])
      have hll : (l1 ++ (xs.take k).flatMap encWDsk).length ≤ 2600000 := by
        have h1 : xs.flatMap encWDsk = (xs.take k).flatMap encWDsk ++ (xs.drop k).flatMap encWDsk := by rw [← List.flatMap_append, List.take_append_drop]
        have h2 := congrArg List.length h1
        rw [List.length_append] at h2
        rw [List.length_append]; omega
      obtain ⟨b, o, rfl, hcell⟩ := Row.at hrow.row (k := k * 8) (by rw [flatMap_len (cells := cellsWDsk) (size := 8) (fun _ => rfl)]; have := Nat.mul_lt_mul_of_pos_right hkx (show 0 < 8 by decide); omega)
      have hce : ∀ r, r < 8 → wr.cell? ⟨b, o + k * 8 + r, none⟩ = (cellsWDsk (xs[k]'hkx))[r]? := fun r hr => by
        have h1 := flatMap_at (cells := cellsWDsk) (size := 8) (fun _ => rfl) (xs := xs) (i := k) hr
        rw [List.getElem?_eq_getElem hkx, Option.bind_some] at h1
        have h2 : k * 8 + r < (xs.flatMap cellsWDsk).length := by
          rw [flatMap_len (cells := cellsWDsk) (size := 8) (fun _ => rfl)]
          first | (simp only [Nat.mul_one]; omega) | (have := Nat.mul_le_mul_right 8 (Nat.succ_le_of_lt hkx); rw [Nat.succ_mul] at this; omega)
        have h3 := hcell (k * 8 + r) h2
        rw [Nat.add_assoc, h3, ← h1, List.getElem?_eq_getElem h2]
      generalize xs[k]'hkx = x at HT hce
      obtain ⟨v0, v1, v2, ⟨v3, v4, v5, v6, v7⟩⟩ := x
      have q0 := hce 0 (by decide)
      rw [show (cellsWDsk (⟨v0, v1, v2, ⟨v3, v4, v5, v6, v7⟩⟩ : WDsk))[0]? = some (.int .i64 v0) from rfl] at q0
      have q1 := hce 1 (by decide)
      rw [show (cellsWDsk (⟨v0, v1, v2, ⟨v3, v4, v5, v6, v7⟩⟩ : WDsk))[1]? = some (.int .i64 v1) from rfl] at q1
      have q2 := hce 2 (by decide)
      rw [show (cellsWDsk (⟨v0, v1, v2, ⟨v3, v4, v5, v6, v7⟩⟩ : WDsk))[2]? = some (.int .i64 v2) from rfl] at q2
      have q3 := hce 3 (by decide)
      rw [show (cellsWDsk (⟨v0, v1, v2, ⟨v3, v4, v5, v6, v7⟩⟩ : WDsk))[3]? = some (.int .i64 v3) from rfl] at q3
      have q4 := hce 4 (by decide)
      rw [show (cellsWDsk (⟨v0, v1, v2, ⟨v3, v4, v5, v6, v7⟩⟩ : WDsk))[4]? = some (.int .i64 v4) from rfl] at q4
      have q5 := hce 5 (by decide)
      rw [show (cellsWDsk (⟨v0, v1, v2, ⟨v3, v4, v5, v6, v7⟩⟩ : WDsk))[5]? = some (.int .i64 v5) from rfl] at q5
      have q6 := hce 6 (by decide)
      rw [show (cellsWDsk (⟨v0, v1, v2, ⟨v3, v4, v5, v6, v7⟩⟩ : WDsk))[6]? = some (.int .i64 v6) from rfl] at q6
      have q7 := hce 7 (by decide)
      rw [show (cellsWDsk (⟨v0, v1, v2, ⟨v3, v4, v5, v6, v7⟩⟩ : WDsk))[7]? = some (.int .i64 v7) from rfl] at q7
      simp only [Nat.add_zero] at q0
      clear hce hcell hrow hkx
      have HON := Lib.hid (closdsk_w D g wr.heap.size gc c3 a3 (l1 ++ (xs.take k).flatMap encWDsk) ⟨v0, v1, v2, ⟨v3, v4, v5, v6, v7⟩⟩ (wr.alloc (.cells #[.int .i64 v0, .int .i64 v1, .int .i64 v2, .int .i64 v3, .int .i64 v4, .int .i64 v5, .int .i64 v6, .int .i64 v7] 122)) (hcw.out.below (mid_alloc' (Below.refl _ _))) (by simp; omega) (Box.of_alloc (Below.refl _ _)) hcw.out.new.1 hcw.out.new.2 ((HGC.out.1.grew (by simp) hgr.out HGC.out.2.1 HGC.out.2.2).next (by simp) (mid_alloc' (Below.refl _ _))) HGC.out.2.1 (hgr.out.off (HGC.out.1.lt (by simp)) HGC.out.2.2) (by omega))
      go_wp2_with (go_at_call 96; ((with_reducible refine HON.out.mono ?_); rintro en w4 ⟨a4, c4, rfl, hcw4, hgr4⟩; have HC4 := Lib.hid hcw4; have HG4 := Lib.hid (hgr4.pre (mid_alloc' (Below.refl _ _))); clear hcw4 hgr4))
      exact ⟨⟨k + 1, a4, c4, by omega, by go_num, by show Cw _ _ _ _ _ _; rw [HT.out]; exact HC4.out, hgr.out.trans HG4.out⟩, by simp [intOf]; omega⟩
    · obtain rfl : k = m := by omega
      have hd : decide (k < k) = false := decide_eq_false (by omega)
      go_wp2
      first | go_end0 | refine bodyPost_ret (results_none rfl _ _ _) rfl ?_
      refine ⟨a3, c3, rfl, ?_, hgr.out⟩
      rw [HTT.out]
      have h := hcw.out
      rw [List.take_of_length_le (by rw [HM.out]; exact Nat.le_refl _)] at h; exact h
end Go.Proofs.Ytlckgnemmffdkaa
