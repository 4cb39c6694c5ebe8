import Derived.Test.YtmihgdjnjfjjcaaPackFollowCommits1
import Derived.Test.YtmihgdjnjfjjcaaPackFollowComes3
import Derived.Test.YtmihgdjnjfjjcaaPackFollowComes2
import Derived.Deep.CutRange
import Derived.Deep.CutBlock
set_option linter.unusedVariables false
set_option linter.unusedSimpArgs false
/- A majority has what is committed, of the leader's term: the walk. -/
namespace Go.Proofs.Ytmihgdjnjfjjcaa
open Go.ChangeShapes Go.WideShapes Go.ChangeAt Go.RowKit
set_option maxRecDepth 100000

theorem bit_and0 : ∀ (n : Fin 256) (d : Fin 7), (bits .and .u8 ((n.val : Int) / ((2 ^ d.val : Nat) : Int)) 1 == 0) = !decide (n.val / 2 ^ d.val % 2 = 1) := by decide +kernel
theorem notSet_at (s : UInt8) (k : Nat) (h1 : 1 ≤ k) (h2 : k ≤ 7) : (bits .and .u8 ((s.toNat : Int) / ((2 ^ (k - 1) : Nat) : Int)) 1 == 0) = !inSet s.toNat k := by
  rw [bit_and0 ⟨s.toNat, s.toNat_lt⟩ ⟨k - 1, by omega⟩]
  unfold inSet
  congr 1
  rw [decide_eq_decide]
  exact ⟨fun h => ⟨h1, h2, h⟩, fun h => h.2.2⟩
theorem comR_is {b t : Int} {es : List WEnt} {set : Nat} {self term com : Int} {l : List Prg} (h1 : com ≤ b + es.length) (h2 : 0 ≤ (es.length : Int)) :
    comR b t es set self term com l = com ∨ (comAt b t es set self term l (comR b t es set self term com l) = true ∧ com < comR b t es set self term com l ∧ b < comR b t es set self term com l ∧ comR b t es set self term com l ≤ b + es.length) := by
  rcases bestUp_is (f := comAt b t es set self term l) (lo := max com b) (c := com) (b + es.length - max com b).toNat with h | ⟨h, h3, h4⟩
  · exact .inl h
  · exact .inr ⟨h, by show com < bestUp _ _ _ _; omega, by show b < bestUp _ _ _ _; omega, by show bestUp _ _ _ _ ≤ _; omega⟩
set_option maxHeartbeats 32000000 in
theorem law_counts (es : List RwE) (b t : Int) (a : Option Addr) (n c : Nat) (s : UInt8) (self term com : Int) (l : List Prg) (a2 : Option Addr) (n2 c2 : Nat) (w : World) (hn : es.length = n) (hl : n ≤ 1000000000000000) (hle : ∀ y ∈ es, y.1.data.length ≤ 1000000000000000) (hr : Row w a (es.flatMap cellsRw)) (hn2 : l.length = n2) (hl2 : n2 ≤ maxLen) (hr2 : LRow layPrg w a2 l) (hcom : InI com) :
    Calls Try.prog 4 #[.agg #[.int .i64 b, .int .i64 t, .slice a n c], B s, .int .i64 self, .int .i64 term, .int .i64 com, .slice a2 n2 c2] w (RetTrue w) := by
  have hlen : (ents es).length = n := by rw [← hn]; exact List.length_map _
  have HB0 : Hid (Below w.heap.size w (w.alloc (.cells #[.int .i64 b, .int .i64 t, .slice a n c] 24))) := mid_alloc' (Below.refl _ _)
  have HX0 : Hid (Box (w.alloc (.cells #[.int .i64 b, .int .i64 t, .slice a n c] 24)) w.heap.size [.int .i64 b, .int .i64 t, .slice a n c]) := Box.of_alloc (w := w) (cs := [.int .i64 b, .int .i64 t, .slice a n c]) (t := 24) (Below.refl _ _)
  have HGR := Lib.hid (fun w' (hb : Below w.heap.size w w') => great_any es b t a n c w' hn hl hle (hr.mono_below hb))
  have WK := Lib.hid (fun w' => wakes_any w')
  have hlm := lt_maxLen hl2
  have HCK := Lib.hid (fun (h1 : n ≤ 150) w' (hb : Below w.heap.size w w') => refcheck_any es b t a n c w' hn (by omega) (hr.mono_below hb))
  have HLV := Lib.hid (fun (h1 : n ≤ 150) w' (hb : Below w.heap.size w w') => refLast_any es b t a n c w' hn (by omega) (hr.mono_below hb))
  have HTM := Lib.hid (fun (h1 : n ≤ 150) i (hi : InI i) w' (hb : Below w.heap.size w w') => refTerm_any es b t a n c w' hn (by omega) (hr.mono_below hb) i hi)
  have HF := Lib.hid (fun (h1 : n2 ≤ 100) k w' (hb : Below w.heap.size w w') => reffind_any l a2 n2 c2 k w' hn2 (by omega) (LRow.below hr2 hb))
  have HC1 := Lib.hid (fun (h1 : n ≤ 150) (h2 : n2 ≤ 100) w' (hb : Below w.heap.size w w') => commit_any es b t a n c s self term com l a2 n2 c2 w' hn (by omega) (hr.mono_below hb) hn2 (by omega) (LRow.below hr2 hb) hcom)
  rcases d : decide ((100 : Int) < (n2 : Int)) with _ | _
  rotate_left
  · clear hn hle hr hn2 hr2 hcom hlen
    go_enter Try.func4, Try.ntmps4
    go_wp2_with (first
      | (go_at_call 9; ((with_reducible refine (WK.out _).mono ?_); rintro e w2 ⟨rfl, hb⟩; have HB2 := Lib.hid (HB1.out.trans (hb.mono HB1.out.size)); clear hb))
      | (go_at_call 8; ((with_reducible refine (HGR.out _ HB0.out).mono ?_); rintro e w1 ⟨v, rfl, hb, hf⟩; have HB1 := Lib.hid (HB0.out.trans (hb.mono HB0.out.size)); clear hb hf; cases v)))
    all_goals (go_ret; exact ⟨rfl, HB2.out⟩)
  have h100 : n2 ≤ 100 := by have := of_decide_eq_false d; omega
  rcases hok : okR b t (ents es) with _ | _
  · rw [chk_not hok] at HCK
    clear hn hle hr hn2 hr2 hcom hlen hok HLV HTM HF HC1
    go_enter Try.func4, Try.ntmps4
    go_wp2_with (first
      | (have hgq := HB3; clear hgq; go_at_call 9; ((with_reducible refine (WK.out _).mono ?_); rintro e w2 ⟨rfl, hb⟩; have HB2 := Lib.hid (HB3.out.trans (hb.mono HB3.out.size)); clear hb))
      | (go_at_call 9; ((with_reducible refine (WK.out _).mono ?_); rintro e w2 ⟨rfl, hb⟩; have HB2 := Lib.hid (HB1.out.trans (hb.mono HB1.out.size)); clear hb))
      | (go_at_call 12; ((with_reducible refine (HCK.out (HFF.out (by first | trivial | rfl)) _ HB1.out).mono ?_); rintro e w3 ⟨rfl, hb⟩; have HB3 := Lib.hid (HB1.out.trans (hb.mono HB1.out.size)); clear hb))
      | (go_at_call 8; ((with_reducible refine (HGR.out _ HB0.out).mono ?_); rintro e w1 ⟨v, rfl, hb, hf⟩; have HB1 := Lib.hid (HB0.out.trans (hb.mono HB0.out.size)); have HX1 := Lib.hid (HX0.out.next (by simp) hb); have k0 := HX1.out.cell (j := 0) rfl; have k1 := HX1.out.cell (j := 1) rfl; have k2 := HX1.out.cell (j := 2) rfl; have HFF := Lib.hid hf; clear hb hf; cases v)))
    all_goals (go_ret; exact ⟨rfl, HB2.out⟩)
  have hob := ok_bounds hok
  have hb1 : 0 ≤ b := hob.1
  have hb2 : b + (n : Int) ≤ 1099511627776 := by have := hob.2.2.1; rw [hlen] at this; exact this
  rw [chk_ok hok] at HCK
  rw [lastF_ok hok, hlen] at HLV
  have HTF : Hid (∀ i, b ≤ i → i ≤ b + (n : Int) → termF b t (ents es) i = (termR b t (ents es) i, true)) := fun i h1 h2 => by
    unfold termF hasR; rw [if_pos ⟨hok, decide_eq_true ⟨h1, by rw [hlen]; exact h2⟩⟩]
  generalize lastT t (ents es) = lt at HLV
  by_cases hcd : com < 0 ∨ b + (ents es).length < com ∨ term < 1 ∨ sizeS s.toNat 7 = 0
  · rw [commitF_arg hok hcd] at HC1
    clear hn hle hr hn2 hr2 hcom hlen hok HLV HTM HF hob hcd HTF
    go_enter Try.func4, Try.ntmps4
    go_wp2_with (first
      | (have hgq := HB4; clear hgq; go_at_call 9; ((with_reducible refine (WK.out _).mono ?_); rintro e w2 ⟨rfl, hb⟩; have HB2 := Lib.hid (HB4.out.trans (hb.mono HB4.out.size)); clear hb))
      | (go_at_call 9; ((with_reducible refine (WK.out _).mono ?_); rintro e w2 ⟨rfl, hb⟩; have HB2 := Lib.hid (HB1.out.trans (hb.mono HB1.out.size)); clear hb))
      | (go_at_call 10; ((with_reducible refine (HC1.out (HFF.out (by first | trivial | rfl)) h100 _ HB3.out).mono ?_); rintro e w4 ⟨rfl, hb⟩; have HB4 := Lib.hid (HB3.out.trans (hb.mono HB3.out.size)); clear hb))
      | (go_at_call 12; ((with_reducible refine (HCK.out (HFF.out (by first | trivial | rfl)) _ HB1.out).mono ?_); rintro e w3 ⟨rfl, hb⟩; have HB3 := Lib.hid (HB1.out.trans (hb.mono HB1.out.size)); have HX3 := Lib.hid (HX1.out.next (by simp) hb); clear hb k0 k1 k2; have k0 := HX3.out.cell (j := 0) rfl; have k1 := HX3.out.cell (j := 1) rfl; have k2 := HX3.out.cell (j := 2) rfl))
      | (go_at_call 8; ((with_reducible refine (HGR.out _ HB0.out).mono ?_); rintro e w1 ⟨v, rfl, hb, hf⟩; have HB1 := Lib.hid (HB0.out.trans (hb.mono HB0.out.size)); have HX1 := Lib.hid (HX0.out.next (by simp) hb); have k0 := HX1.out.cell (j := 0) rfl; have k1 := HX1.out.cell (j := 1) rfl; have k2 := HX1.out.cell (j := 2) rfl; have HFF := Lib.hid hf; clear hb hf; cases v)))
    all_goals (go_ret; exact ⟨rfl, HB2.out⟩)
  rw [commitF_ok hok hcd] at HC1
  have hcom2 : com ≤ b + (n : Int) := by rw [hlen] at hcd; omega
  have HIS := Lib.hid (comR_is (b := b) (t := t) (es := ents es) (set := s.toNat) (self := self) (term := term) (com := com) (l := l) (by rw [hlen]; exact hcom2) (by omega))
  rw [hlen] at HIS
  have HCA : Hid (∀ i, comAt b t (ents es) s.toNat self term l i = (decide (termR b t (ents es) i = term) && decide (sizeS s.toNat 7 < 2 * cntS s.toNat self l i 7))) := fun i => rfl
  generalize comR b t (ents es) s.toNat self term com l = m at HC1 HIS
  generalize comAt b t (ents es) s.toNat self term l = ca at HCA HIS
  unfold InI at hcom
  clear hn hle hr hn2 hr2 hlen hok hob hcd
  have d1 : decide (m < com) = false := decide_eq_false (by rcases HIS.out with h | h <;> omega)
  have d2 : decide (b + (n : Int) < m) = false := decide_eq_false (by rcases HIS.out with h | h <;> omega)
  rcases e : (m == com) with _ | _
  rotate_left
  · clear HIS HTM HF HTF HCA
    go_enter Try.func4, Try.ntmps4
    go_wp2_with (first
      | (have hgq := HB5; clear hgq; go_at_call 9; ((with_reducible refine (WK.out _).mono ?_); rintro e w2 ⟨rfl, hb⟩; have HB9 := Lib.hid (HB5.out.trans (hb.mono HB5.out.size)); clear hb))
      | (have hgq := HB1; clear hgq; go_at_call 9; ((with_reducible refine (WK.out _).mono ?_); rintro e w2 ⟨rfl, hb⟩; have HB9 := Lib.hid (HB1.out.trans (hb.mono HB1.out.size)); clear hb))
      | (have hgq := HB4; clear hgq; go_at_call 13; ((with_reducible refine (HLV.out (HFF.out (by first | trivial | rfl)) _ HB4.out).mono ?_); rintro e w5 ⟨rfl, hb⟩; have HB5 := Lib.hid (HB4.out.trans (hb.mono HB4.out.size)); have HX5 := Lib.hid (HX4.out.next (by simp) hb); clear hb k0 k1 k2; have k0 := HX5.out.cell (j := 0) rfl; have k1 := HX5.out.cell (j := 1) rfl; have k2 := HX5.out.cell (j := 2) rfl))
      | (have hgq := HB3; clear hgq; go_at_call 10; ((with_reducible refine (HC1.out (HFF.out (by first | trivial | rfl)) h100 _ HB3.out).mono ?_); rintro e w4 ⟨rfl, hb⟩; have HB4 := Lib.hid (HB3.out.trans (hb.mono HB3.out.size)); have HX4 := Lib.hid (HX3.out.next (by simp) hb); clear hb k0 k1 k2; have k0 := HX4.out.cell (j := 0) rfl; have k1 := HX4.out.cell (j := 1) rfl; have k2 := HX4.out.cell (j := 2) rfl))
      | (have hgq := HB1; clear hgq; go_at_call 12; ((with_reducible refine (HCK.out (HFF.out (by first | trivial | rfl)) _ HB1.out).mono ?_); rintro e w3 ⟨rfl, hb⟩; have HB3 := Lib.hid (HB1.out.trans (hb.mono HB1.out.size)); have HX3 := Lib.hid (HX1.out.next (by simp) hb); clear hb k0 k1 k2; have k0 := HX3.out.cell (j := 0) rfl; have k1 := HX3.out.cell (j := 1) rfl; have k2 := HX3.out.cell (j := 2) rfl))
      | (go_at_call 8; ((with_reducible refine (HGR.out _ HB0.out).mono ?_); rintro e w1 ⟨v, rfl, hb, hf⟩; have HB1 := Lib.hid (HB0.out.trans (hb.mono HB0.out.size)); have HX1 := Lib.hid (HX0.out.next (by simp) hb); have k0 := HX1.out.cell (j := 0) rfl; have k1 := HX1.out.cell (j := 1) rfl; have k2 := HX1.out.cell (j := 2) rfl; have HFF := Lib.hid hf; clear hb hf; cases v)))
    all_goals (go_ret; exact ⟨rfl, HB9.out⟩)
  have hne : ¬ m = com := by simpa using e
  obtain ⟨hcm, hm1, hm2, hm3⟩ := HIS.out.resolve_left hne
  have HTE := Lib.hid (fun (h1 : n ≤ 150) w' (hb : Below w.heap.size w w') => HTM.out h1 m (by unfold InI; omega) w' hb)
  rw [HTF.out m (by omega) hm3] at HTE
  have hca := (HCA.out m).symm.trans hcm
  rw [Bool.and_eq_true] at hca
  have htm : termR b t (ents es) m = term := of_decide_eq_true hca.1
  have hmj : sizeS s.toNat 7 < 2 * cntS s.toNat self l m 7 := of_decide_eq_true hca.2
  have HMJ := Lib.hid hmj
  rw [htm] at HTE
  have HSS := Lib.hid (fun k => (show sizeS s.toNat (k + 1) = sizeS s.toNat k + (if inSet s.toNat (k + 1) then 1 else 0) from rfl))
  have HCN := Lib.hid (fun k => (show cntS s.toNat self l m (k + 1) = cntS s.toNat self l m k + (if yesS s.toNat self l m (k + 1) then 1 else 0) from rfl))
  have HF2 := Lib.hid (HF.out h100)
  clear HIS HTM HTF HCA hcm hca htm hmj hne HF
  go_enter Try.func4, Try.ntmps4
  go_wp2_with (first
      | (have hgq := HB1; clear hgq; go_at_call 9; ((with_reducible refine (WK.out _).mono ?_); rintro e w2 ⟨rfl, hb⟩; have HB9 := Lib.hid (HB1.out.trans (hb.mono HB1.out.size)); clear hb))
      | (have hgq := HB5; clear hgq; go_at_call 14; ((with_reducible refine (HTE.out (HFF.out (by first | trivial | rfl)) _ HB5.out).mono ?_); rintro e w6 ⟨rfl, hb⟩; have HB6 := Lib.hid (HB5.out.trans (hb.mono HB5.out.size)); have HX6 := Lib.hid (HX5.out.next (by simp) hb); clear hb k0 k1 k2; have k0 := HX6.out.cell (j := 0) rfl; have k1 := HX6.out.cell (j := 1) rfl; have k2 := HX6.out.cell (j := 2) rfl))
      | (have hgq := HB4; clear hgq; go_at_call 13; ((with_reducible refine (HLV.out (HFF.out (by first | trivial | rfl)) _ HB4.out).mono ?_); rintro e w5 ⟨rfl, hb⟩; have HB5 := Lib.hid (HB4.out.trans (hb.mono HB4.out.size)); have HX5 := Lib.hid (HX4.out.next (by simp) hb); clear hb k0 k1 k2; have k0 := HX5.out.cell (j := 0) rfl; have k1 := HX5.out.cell (j := 1) rfl; have k2 := HX5.out.cell (j := 2) rfl))
      | (have hgq := HB3; clear hgq; go_at_call 10; ((with_reducible refine (HC1.out (HFF.out (by first | trivial | rfl)) h100 _ HB3.out).mono ?_); rintro e w4 ⟨rfl, hb⟩; have HB4 := Lib.hid (HB3.out.trans (hb.mono HB3.out.size)); have HX4 := Lib.hid (HX3.out.next (by simp) hb); clear hb k0 k1 k2; have k0 := HX4.out.cell (j := 0) rfl; have k1 := HX4.out.cell (j := 1) rfl; have k2 := HX4.out.cell (j := 2) rfl))
      | (have hgq := HB1; clear hgq; go_at_call 12; ((with_reducible refine (HCK.out (HFF.out (by first | trivial | rfl)) _ HB1.out).mono ?_); rintro e w3 ⟨rfl, hb⟩; have HB3 := Lib.hid (HB1.out.trans (hb.mono HB1.out.size)); have HX3 := Lib.hid (HX1.out.next (by simp) hb); clear hb k0 k1 k2; have k0 := HX3.out.cell (j := 0) rfl; have k1 := HX3.out.cell (j := 1) rfl; have k2 := HX3.out.cell (j := 2) rfl))
      | (go_at_call 8; ((with_reducible refine (HGR.out _ HB0.out).mono ?_); rintro e w1 ⟨v, rfl, hb, hf⟩; have HB1 := Lib.hid (HB0.out.trans (hb.mono HB0.out.size)); have HX1 := Lib.hid (HX0.out.next (by simp) hb); have k0 := HX1.out.cell (j := 0) rfl; have k1 := HX1.out.cell (j := 1) rfl; have k2 := HX1.out.cell (j := 2) rfl; have HFF := Lib.hid hf; clear hb hf; cases v)))
  rotate_left
  · go_ret; exact ⟨rfl, HB9.out⟩
  clear k0 k1 k2 HX0 HX1 HX3 HX4 HX5 HX6 HB0 HB1 HB3 HB4 HB5 HGR HCK HLV HC1 HTE HFF d1 d2 e
  go_loopw [19, 20, 21] (fun yv av kv wr => ∃ (k yn an : Nat), 1 ≤ k ∧ k ≤ 8 ∧ kv = .int .i64 k ∧ yv = .int .i64 yn ∧ av = .int .i64 an ∧ Hid (cntS s.toNat self l m (k - 1) = yn) ∧ Hid (sizeS s.toNat (k - 1) = an) ∧ yn ≤ k - 1 ∧ an ≤ k - 1 ∧ Hid (Below w.heap.size w wr)) (fun _ _ kv _ => 8 - (intOf kv).toNat)
  case atStart => exact ⟨1, 0, 0, by omega, by omega, rfl, rfl, rfl, rfl, rfl, by omega, by omega, HB6.out⟩
  case round =>
    clear HB6
    obtain ⟨k, yn, an, hk1, hk8, rfl, rfl, rfl, HY, HS, hyn, han, HBL⟩ := hrel
    by_cases h7 : k ≤ 7
    · have ek : k - 1 + 1 = k := by omega
      have HY2 := Lib.hid (HCN.out (k - 1))
      have HS2 := Lib.hid (HSS.out (k - 1))
      rw [ek, HY.out] at HY2
      rw [ek, HS.out] at HS2
      have HF1 := Lib.hid (HF2.out (k : Int) wr HBL.out)
      have HPM := Lib.hid (prgOf_mat l (k : Int))
      have HYS : Hid (yesS s.toNat self l m k = (inSet s.toNat k && (decide ((k : Int) = self) || decide (m ≤ matOf l k)))) := rfl
      have HNS := Lib.hid (notSet_at s k hk1 h7)
      generalize prgOf l (k : Int) = pk at HF1 HPM
      obtain ⟨p0, p1, p2⟩ := pk
      generalize hasP l (k : Int) = ph at HF1
      simp only at HPM
      rw [← HPM.out] at HYS
      generalize yesS s.toNat self l m k = yk at HYS HY2
      clear HPM ek HCN HSS HMJ HY HS HF2
      generalize inSet s.toNat k = ik at HYS HS2 HNS
      have hkk : (k : Int) ≤ 7 := by omega
      go_upto_region 16 with fail
      go_cut [83] from 77 to 82 (fun v wx => v = .bool (!ik) ∧ wx = wr)
      case first =>
        clear HF1 HYS HY2 HS2
        obtain rfl | rfl | rfl | rfl | rfl | rfl | rfl : k = 1 ∨ k = 2 ∨ k = 3 ∨ k = 4 ∨ k = 5 ∨ k = 6 ∨ k = 7 := by omega
        all_goals
          go_wp2_with fail
          go_meet
          first
          | exact ⟨congrArg Value.bool (by first | exact HNS.out | (rw [← HNS.out]; simp)), rfl⟩
          | ((repeat apply Exists.intro); exact ⟨⟨congrArg Value.bool (by first | exact HNS.out | (rw [← HNS.out]; simp)), rfl⟩, rfl⟩)
      obtain ⟨rfl, hwc⟩ := hcut
      subst hwc
      cases ik
      · have hyk : yk = false := HYS.out
        subst hyk
        go_wp2_with fail
        go_roundw
        case rel => first | exact ⟨k + 1, yn, an, by omega, by omega, by go_num, rfl, rfl, (by show cntS _ _ _ _ (k + 1 - 1) = _; rw [Nat.add_sub_cancel, HY2.out]; rfl), (by show sizeS _ (k + 1 - 1) = _; rw [Nat.add_sub_cancel, HS2.out]; rfl), by omega, by omega, HBL.out⟩ | ((repeat apply Exists.intro); exact ⟨⟨k + 1, yn, an, by omega, by omega, by go_num, rfl, rfl, (by show cntS _ _ _ _ (k + 1 - 1) = _; rw [Nat.add_sub_cancel, HY2.out]; rfl), (by show sizeS _ (k + 1 - 1) = _; rw [Nat.add_sub_cancel, HS2.out]; rfl), by omega, by omega, HBL.out⟩, rfl⟩)
        case measure => simp [intOf]; omega
      · rw [Bool.true_and] at HYS
        rcases he : ((k : Int) == self) with _ | _
        · have he2 : decide ((k : Int) = self) = false := decide_eq_false (by simpa using he)
          rw [he2, Bool.false_or] at HYS
          clear he2
          rcases d : decide (m ≤ p1) with _ | _
          all_goals rw [d] at HYS
          · have hyk : yk = false := HYS.out
            subst hyk
            go_wp2_with (go_at_call 15; ((with_reducible refine HF1.out.mono ?_); rintro e w2 ⟨rfl, hb⟩; have hba : Below w2.heap.size w2 (w2.alloc (.cells #[.int .i64 p0, .int .i64 p1, .int .i64 p2] 39)) := mid_alloc' (Below.refl _ _); have hbk := HBL.out.trans (hb.mono HBL.out.size); have HB2 := Lib.hid (hbk.trans (hba.mono hbk.size)); clear hb hba hbk))
            go_roundw
            case rel => first | exact ⟨k + 1, yn, an + 1, by omega, by omega, by go_num, rfl, by go_num, (by show cntS _ _ _ _ (k + 1 - 1) = _; rw [Nat.add_sub_cancel, HY2.out]; rfl), (by show sizeS _ (k + 1 - 1) = _; rw [Nat.add_sub_cancel, HS2.out]; rfl), by omega, by omega, HB2.out⟩ | ((repeat apply Exists.intro); exact ⟨⟨k + 1, yn, an + 1, by omega, by omega, by go_num, rfl, by go_num, (by show cntS _ _ _ _ (k + 1 - 1) = _; rw [Nat.add_sub_cancel, HY2.out]; rfl), (by show sizeS _ (k + 1 - 1) = _; rw [Nat.add_sub_cancel, HS2.out]; rfl), by omega, by omega, HB2.out⟩, rfl⟩)
            case measure => simp [intOf]; omega
          · have hyk : yk = true := HYS.out
            subst hyk
            go_wp2_with (go_at_call 15; ((with_reducible refine HF1.out.mono ?_); rintro e w2 ⟨rfl, hb⟩; have hba : Below w2.heap.size w2 (w2.alloc (.cells #[.int .i64 p0, .int .i64 p1, .int .i64 p2] 39)) := mid_alloc' (Below.refl _ _); have hbk := HBL.out.trans (hb.mono HBL.out.size); have HB2 := Lib.hid (hbk.trans (hba.mono hbk.size)); clear hb hba hbk))
            go_roundw
            case rel => first | exact ⟨k + 1, yn + 1, an + 1, by omega, by omega, by go_num, by go_num, by go_num, (by show cntS _ _ _ _ (k + 1 - 1) = _; rw [Nat.add_sub_cancel, HY2.out]; rfl), (by show sizeS _ (k + 1 - 1) = _; rw [Nat.add_sub_cancel, HS2.out]; rfl), by omega, by omega, HB2.out⟩ | ((repeat apply Exists.intro); exact ⟨⟨k + 1, yn + 1, an + 1, by omega, by omega, by go_num, by go_num, by go_num, (by show cntS _ _ _ _ (k + 1 - 1) = _; rw [Nat.add_sub_cancel, HY2.out]; rfl), (by show sizeS _ (k + 1 - 1) = _; rw [Nat.add_sub_cancel, HS2.out]; rfl), by omega, by omega, HB2.out⟩, rfl⟩)
            case measure => simp [intOf]; omega
        · have he2 : decide ((k : Int) = self) = true := decide_eq_true (by simpa using he)
          rw [he2, Bool.true_or] at HYS
          have hyk : yk = true := HYS.out
          subst hyk
          clear he2
          go_wp2_with (go_at_call 15; ((with_reducible refine HF1.out.mono ?_); rintro e w2 ⟨rfl, hb⟩; have hba : Below w2.heap.size w2 (w2.alloc (.cells #[.int .i64 p0, .int .i64 p1, .int .i64 p2] 39)) := mid_alloc' (Below.refl _ _); have hbk := HBL.out.trans (hb.mono HBL.out.size); have HB2 := Lib.hid (hbk.trans (hba.mono hbk.size)); clear hb hba hbk))
          go_roundw
          case rel => first | exact ⟨k + 1, yn + 1, an + 1, by omega, by omega, by go_num, by go_num, by go_num, (by show cntS _ _ _ _ (k + 1 - 1) = _; rw [Nat.add_sub_cancel, HY2.out]; rfl), (by show sizeS _ (k + 1 - 1) = _; rw [Nat.add_sub_cancel, HS2.out]; rfl), by omega, by omega, HB2.out⟩ | ((repeat apply Exists.intro); exact ⟨⟨k + 1, yn + 1, an + 1, by omega, by omega, by go_num, by go_num, by go_num, (by show cntS _ _ _ _ (k + 1 - 1) = _; rw [Nat.add_sub_cancel, HY2.out]; rfl), (by show sizeS _ (k + 1 - 1) = _; rw [Nat.add_sub_cancel, HS2.out]; rfl), by omega, by omega, HB2.out⟩, rfl⟩)
          case measure => simp [intOf]; omega
    · obtain rfl : k = 8 := by omega
      have hE : cntS s.toNat self l m 7 = yn := HY.out
      have hE2 : sizeS s.toNat 7 = an := HS.out
      have hmj := HMJ.out
      rw [hE, hE2] at hmj
      have dm : decide ((an : Int) < 2 * (yn : Int)) = true := decide_eq_true (by omega)
      clear HY HS hE hE2 HMJ hmj HCN HSS
      go_wp2_with (go_at_call 9; ((with_reducible refine (WK.out _).mono ?_); rintro e w2 ⟨rfl, hb⟩; have HB9 := Lib.hid (HBL.out.trans (hb.mono HBL.out.size)); clear hb))
      go_ret
      exact ⟨rfl, HB9.out⟩
end Go.Proofs.Ytmihgdjnjfjjcaa
