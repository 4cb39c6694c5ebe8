import Derived.Test.YtlckgnemmffdkaaWirListEnt
set_option linter.unusedVariables false
set_option linter.unusedSimpArgs false
/- Lists behind a writer's bytes: a list of Ent. (printed by gen_wirlist.py) -/
namespace Go.Proofs.Ytlckgnemmffdkaa
open Go.ChangeShapes Go.WideShapes Go.ChangeAt Go.RowKit
set_option maxRecDepth 100000

set_option maxHeartbeats 4000000 in
theorem listent_w (D g gx ox c m kk : Nat) (a ad : Option Addr) (bs : List UInt8) (xs : List (EntP)) (w : World) (h : Cw w D g a c bs) (hD : D ≤ w.heap.size) (hx : w.cell? ⟨gx, ox, none⟩ = some (.slice ad m kk)) (hm : xs.length = m) (hr : LowRow g w ad (xs.flatMap cellsEn)) (hgx : gx ≠ g) (hxa : ∀ o s, a ≠ some ⟨gx, o, s⟩) (hn : bs.length ≤ 1500000) (hsz : (xs.flatMap (fun y : WEnt × PEnt => encWEnt y.1)).length ≤ 1000000) (hm2 : m ≤ 1000000) (hok : ∀ y ∈ xs, LowEnt g w y.1 y.2 ∧ OkEnt y.1) :
    Calls Try.prog 98 #[.pointer (some ⟨g, 0, none⟩), .pointer (some ⟨gx, ox, none⟩), .int .i64 26, .func (.func 45) #[.pointer (some ⟨g, 0, none⟩)] #[]] w (RetCw w D g a (bs ++ (be8 xs.length ++ xs.flatMap (fun y : WEnt × PEnt => encWEnt y.1)))) := by
  have HCO : Hid (Calls Try.prog 100 #[.pointer (some ⟨g, 0, none⟩), .int .i64 m, .int .i64 26] w (RetCount' w D g a m (bs ++ be8 (m : Int)))) := count_w D g c 26 m a bs w h hD (by omega)
  have HC := Lib.hid h
  have HX := Lib.hid (And.intro hx (And.intro hgx hxa))
  have HR := Lib.hid hr
  have HM := Lib.hid hm
  have hgxl := World.block_lt_of_cell? w _ hx
  have hlb : (bs ++ be8 (m : Int)).length ≤ 1500008 := by rw [List.length_append, be8_length]; omega
  have HTT := Lib.hid (show bs ++ (be8 xs.length ++ xs.flatMap (fun y : WEnt × PEnt => encWEnt y.1)) = (bs ++ be8 (m : Int)) ++ xs.flatMap (fun y : WEnt × PEnt => encWEnt y.1) by rw [hm, List.append_assoc])
  have HOK := Lib.hid hok
  clear hok
  clear h hgx hxa hr hm
  generalize bs ++ be8 (m : Int) = l1 at HCO HTT hlb
  go_enter Try.func98, Try.ntmps98
  go_wp2_with (go_at_call 100; ((with_reducible refine HCO.out.mono ?_); rintro e w1 ⟨a1, c1, rfl, hcw1, hgr1⟩; have y1 := grew_cell hgr1 HX.out.1 HX.out.2.1 HX.out.2.2; have y2 := hcw1.box.cell (j := 2) rfl; have HC1 := Lib.hid hcw1; have HG1 := Lib.hid hgr1; clear hcw1 hgr1))
  clear y1 y2
  go_loopw [43] (fun i wr => ∃ (k : Nat) (a3 : Option Addr) (c3 : Nat), k ≤ m ∧ i = .int .i64 k ∧ Hid (Cw wr D g a3 c3 (l1 ++ (xs.take k).flatMap (fun y : WEnt × PEnt => encWEnt y.1))) ∧ Hid (Grew g a a3 w wr)) (fun i _ => m - (intOf i).toNat)
  case atStart => exact ⟨0, a1, c1, by omega, rfl, by show Cw _ _ _ _ _ _; simpa using HC1.out, HG1.out⟩
  case round =>
    obtain ⟨k, a3, c3, hk, rfl, hcw, hgr⟩ := hrel
    by_cases hlt : k < m
    · have hkx : k < xs.length := by rw [HM.out]; exact hlt
      have hDr : D ≤ wr.heap.size := Nat.le_trans hD hgr.out.size
      have y1 := grew_cell hgr.out HX.out.1 HX.out.2.1 HX.out.2.2
      have hrow := HR.out.grew HC.out hgr.out
      have HT := Lib.hid (show l1 ++ (xs.take (k + 1)).flatMap (fun y : WEnt × PEnt => encWEnt y.1) = (l1 ++ (xs.take k).flatMap (fun y : WEnt × PEnt => encWEnt y.1)) ++ (fun y : WEnt × PEnt => encWEnt y.1) (xs[k]'hkx) by rw [List.take_succ_eq_append_getElem hkx, List.flatMap_append, List.flatMap_singleton, List.append_assoc])
      have hll : (l1 ++ (xs.take k).flatMap (fun y : WEnt × PEnt => encWEnt y.1)).length ≤ 2600000 := by
        have h1 : xs.flatMap (fun y : WEnt × PEnt => encWEnt y.1) = (xs.take k).flatMap (fun y : WEnt × PEnt => encWEnt y.1) ++ (xs.drop k).flatMap (fun y : WEnt × PEnt => encWEnt y.1) := by rw [← List.flatMap_append, List.take_append_drop]
        have h2 := congrArg List.length h1
        rw [List.length_append] at h2
        rw [List.length_append]; omega
      obtain ⟨b, o, rfl, hcell⟩ := Row.at hrow.row (k := k * 5) (by rw [flatMap_len (cells := cellsEn) (size := 5) (fun _ => rfl)]; have := Nat.mul_lt_mul_of_pos_right hkx (show 0 < 5 by decide); omega)
      have hce : ∀ r, r < 5 → wr.cell? ⟨b, o + k * 5 + r, none⟩ = (cellsEn (xs[k]'hkx))[r]? := fun r hr => by
        have h1 := flatMap_at (cells := cellsEn) (size := 5) (fun _ => rfl) (xs := xs) (i := k) hr
        rw [List.getElem?_eq_getElem hkx, Option.bind_some] at h1
        have h2 : k * 5 + r < (xs.flatMap cellsEn).length := by
          rw [flatMap_len (cells := cellsEn) (size := 5) (fun _ => rfl)]
          first | (simp only [Nat.mul_one]; omega) | (have := Nat.mul_le_mul_right 5 (Nat.succ_le_of_lt hkx); rw [Nat.succ_mul] at this; omega)
        have h3 := hcell (k * 5 + r) h2
        rw [Nat.add_assoc, h3, ← h1, List.getElem?_eq_getElem h2]
      have HOX := Lib.hid (HOK.out _ (List.getElem_mem hkx))
      generalize xs[k]'hkx = x at HT hce HOX
      obtain ⟨⟨v0, v1, v2, v3, v4⟩, ⟨p0, p1⟩⟩ := x
      have q0 := hce 0 (by decide)
      rw [show (cellsEn (⟨⟨v0, v1, v2, v3, v4⟩, ⟨p0, p1⟩⟩ : EntP))[0]? = some (.int .i64 v0) from rfl] at q0
      have q1 := hce 1 (by decide)
      rw [show (cellsEn (⟨⟨v0, v1, v2, v3, v4⟩, ⟨p0, p1⟩⟩ : EntP))[1]? = some (.int .i8 v1) from rfl] at q1
      have q2 := hce 2 (by decide)
      rw [show (cellsEn (⟨⟨v0, v1, v2, v3, v4⟩, ⟨p0, p1⟩⟩ : EntP))[2]? = some (.int .i64 v2) from rfl] at q2
      have q3 := hce 3 (by decide)
      rw [show (cellsEn (⟨⟨v0, v1, v2, v3, v4⟩, ⟨p0, p1⟩⟩ : EntP))[3]? = some (B v3) from rfl] at q3
      have q4 := hce 4 (by decide)
      rw [show (cellsEn (⟨⟨v0, v1, v2, v3, v4⟩, ⟨p0, p1⟩⟩ : EntP))[4]? = some (.slice p0 v4.length p1) from rfl] at q4
      simp only [Nat.add_zero] at q0
      clear hce hcell hrow hkx
      have HON := Lib.hid (entry_w D g wr.heap.size c3 a3 (l1 ++ (xs.take k).flatMap (fun y : WEnt × PEnt => encWEnt y.1)) ⟨v0, v1, v2, v3, v4⟩ (p0, p1) (wr.alloc (.cells #[.int .i64 v0, .int .i8 v1, .int .i64 v2, B v3, .slice p0 v4.length p1] 32)) (hcw.out.below (mid_alloc' (Below.refl _ _))) (by simp; omega) (Box.of_alloc (Below.refl _ _)) ⟨(HOX.out.1.row.grew HC.out hgr.out).below (mid_alloc' (Below.refl _ _))⟩ HOX.out.2 hcw.out.new.1 hcw.out.new.2 (by omega))
      go_wp2_with (go_at_call 45; ((with_reducible refine HON.out.mono ?_); rintro en w4 ⟨a4, c4, rfl, hcw4, hgr4⟩; have HC4 := Lib.hid hcw4; have HG4 := Lib.hid (hgr4.pre (mid_alloc' (Below.refl _ _))); clear hcw4 hgr4))
      exact ⟨⟨k + 1, a4, c4, by omega, by go_num, by show Cw _ _ _ _ _ _; rw [HT.out]; exact HC4.out, hgr.out.trans HG4.out⟩, by simp [intOf]; omega⟩
    · obtain rfl : k = m := by omega
      have hd : decide (k < k) = false := decide_eq_false (by omega)
      go_wp2
      first | go_end0 | refine bodyPost_ret (results_none rfl _ _ _) rfl ?_
      refine ⟨a3, c3, rfl, ?_, hgr.out⟩
      rw [HTT.out]
      have h := hcw.out
      rw [List.take_of_length_le (by rw [HM.out]; exact Nat.le_refl _)] at h; exact h
end Go.Proofs.Ytlckgnemmffdkaa
