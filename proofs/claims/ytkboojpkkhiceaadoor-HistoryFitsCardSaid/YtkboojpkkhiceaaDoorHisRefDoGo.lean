import Derived.Test.YtkboojpkkhiceaaDoorPackHistoryDoes2
import Derived.Test.YtkboojpkkhiceaaDoorPackHistoryDoes1
import Derived.BigQuiet
set_option linter.unusedVariables false
set_option linter.unusedSimpArgs false
/- What a table answers, the document's side: the walk through the table. (printed by gen_hisrefdo.py) -/
namespace Go.Proofs.YtkboojpkkhiceaaDoor
open Go.ChangeShapes Go.WideShapes Go.ChangeAt Go.RowKit
set_option maxRecDepth 100000

set_option maxHeartbeats 16000000 in
theorem refdo_go (t : List Force) (x : HCmd) (a : Option Addr) (n c : Nat) (w : World) (hn : t.length = n) (hl : n ≤ 1000) (hr : LRow layFce w a t) (hok : tabOk t = true) (has : asksC x = true) :
    Calls Tryd.prog 10 #[.slice a n c, x.agg] w (RetFA w (doF t x).1 (doF t x).2) := by
  subst hn
  have hlm : t.length ≤ maxLen := le_maxLen (by omega)
  obtain ⟨k, a1, a2, te, ra, bu, a6, a7, a8, a9, a10, a11, ⟨la, ln, lc⟩⟩ := x
  have HBX : Hid (∀ w', Below ((w.alloc (.cells #[.int .i8 k, .int .i64 a1, .int .i64 a2, .int .i64 te, .int .i64 ra, .int .i64 bu, .int .i64 a6, .int .i64 a7, .int .i64 a8, .int .i64 a9, .int .i64 a10, .bool a11, .slice la ln lc] 26)).alloc (.cells #[.int .i64 0, .int .i64 0, .int .i64 0, .int .i64 0, .int .i64 0] 31)).heap.size ((w.alloc (.cells #[.int .i8 k, .int .i64 a1, .int .i64 a2, .int .i64 te, .int .i64 ra, .int .i64 bu, .int .i64 a6, .int .i64 a7, .int .i64 a8, .int .i64 a9, .int .i64 a10, .bool a11, .slice la ln lc] 26)).alloc (.cells #[.int .i64 0, .int .i64 0, .int .i64 0, .int .i64 0, .int .i64 0] 31)) w' → Box w' w.heap.size [.int .i8 k, .int .i64 a1, .int .i64 a2, .int .i64 te, .int .i64 ra, .int .i64 bu, .int .i64 a6, .int .i64 a7, .int .i64 a8, .int .i64 a9, .int .i64 a10, .bool a11, .slice la ln lc] ∧ Box w' (w.heap.size + 1) [.int .i64 0, .int .i64 0, .int .i64 0, .int .i64 0, .int .i64 0] ∧ w.heap.size + 2 ≤ w'.heap.size) := fun w' hb => ⟨Box.of_alloc (w := w) (mid_alloc' hb), Box.of_alloc1 (w := w) hb, by have := hb.size; simp at this; omega⟩
  have HOK := Lib.hid hok
  have hbt := And.intro hok has
  have hp := (tab_parts hok).2
  have F1 : Hid (k = 1 → mayB ra bu = false → doF t ⟨k, a1, a2, te, ra, bu, a6, a7, a8, a9, a10, a11, ⟨la, ln, lc⟩⟩ = (t, Ans.err 160)) := fun h1 h2 => do_rate hbt h1 h2
  have F2 : Hid (k = 1 → mayB ra bu = true → doF t ⟨k, a1, a2, te, ra, bu, a6, a7, a8, a9, a10, a11, ⟨la, ln, lc⟩⟩ = ((loT te t ++ [⟨0, te, ra, bu⟩]) ++ hiT te t, ⟨0, ra, bu, 0, 0⟩)) := fun h1 h2 => by rw [do_put hbt h1 h2, lo_ins (te := te) ⟨0, te, ra, bu⟩ rfl hp]
  have F3 : Hid (k ≠ 1 → owT te t = none → doF t ⟨k, a1, a2, te, ra, bu, a6, a7, a8, a9, a10, a11, ⟨la, ln, lc⟩⟩ = (t, Ans.err 161)) := fun h1 h2 => do_none hbt h1 (by rw [← ow_find hp]; exact h2)
  have F4 : Hid (∀ f, k = 2 → owT te t = some f → doF t ⟨k, a1, a2, te, ra, bu, a6, a7, a8, a9, a10, a11, ⟨la, ln, lc⟩⟩ = (t, ⟨0, f.rate, f.burst, 0, 0⟩)) := fun f h1 h2 => do_get hbt h1 (by rw [← ow_find hp]; exact h2)
  have F5 : Hid (∀ f, k ≠ 1 → k ≠ 2 → owT te t = some f → doF t ⟨k, a1, a2, te, ra, bu, a6, a7, a8, a9, a10, a11, ⟨la, ln, lc⟩⟩ = (loT te t ++ hiT te t, Ans.err 0)) := fun f h1 h2 h3 => by rw [do_del hbt h1 h2 (by rw [← ow_find hp]; exact h3), ← lo_hi hp]
  have HAS : Hid (asksC ⟨k, a1, a2, te, ra, bu, a6, a7, a8, a9, a10, a11, ⟨la, ln, lc⟩⟩ = true) := has
  generalize doF t ⟨k, a1, a2, te, ra, bu, a6, a7, a8, a9, a10, a11, ⟨la, ln, lc⟩⟩ = res at F1 F2 F3 F4 F5 ⊢
  have HL1 := Lib.hid (fun ts => loT_len te ts)
  have HL2 := Lib.hid (fun ts => hiT_len te ts)
  clear hbt hp hok has
  go_enter Tryd.func10, Tryd.ntmps10
  go_wp2_with (first
    | (go_at_call 27; ((with_reducible refine (reft_any t a t.length c _ rfl hlm (LRow.below hr (by repeat' (first | (with_reducible exact Below.refl _ _) | (with_reducible assumption) | (with_reducible refine Below.drew ?_) | (with_reducible refine Below.more ?_ _) | (with_reducible refine Below.put ?_ ?_ _) | (with_reducible refine Below.next ?_ (by with_reducible assumption)) | (with_reducible exact Nat.le_refl _) | (with_reducible refine Below.size' ?_) | omega)))).mono ?_); rw [HOK.out]; rintro e w3 ⟨rfl, hb3⟩; have HX3 := Lib.hid (HBX.out w3 hb3).1; have HZ3 := Lib.hid (HBX.out w3 hb3).2.1; have hz3 := (HBX.out w3 hb3).2.2; have HB3 : Hid (Below w.heap.size w w3) := Lib.hid (by repeat' (first | (with_reducible exact Below.refl _ _) | (with_reducible assumption) | (with_reducible refine Below.drew ?_) | (with_reducible refine Below.more ?_ _) | (with_reducible refine Below.put ?_ ?_ _) | (with_reducible refine Below.next ?_ (by with_reducible assumption)) | (with_reducible exact Nat.le_refl _) | (with_reducible refine Below.size' ?_) | omega)); have HR3 := Lib.hid (show LRow layFce w3 a t from LRow.below hr (by repeat' (first | (with_reducible exact Below.refl _ _) | (with_reducible assumption) | (with_reducible refine Below.drew ?_) | (with_reducible refine Below.more ?_ _) | (with_reducible refine Below.put ?_ ?_ _) | (with_reducible refine Below.next ?_ (by with_reducible assumption)) | (with_reducible exact Nat.le_refl _) | (with_reducible refine Below.size' ?_) | omega))); clear hb3))
    | (refine wpList_strip (by rfl) ?_; refine wpList_load_as layHcm rfl (.tmp 3) rfl w.heap.size 0 rfl ⟨k, a1, a2, te, ra, bu, a6, a7, a8, a9, a10, a11, ⟨la, ln, lc⟩⟩ (HCmd.agg ⟨k, a1, a2, te, ra, bu, a6, a7, a8, a9, a10, a11, ⟨la, ln, lc⟩⟩) rfl HX3.out.range ?_)
    | (refine wpList_strip (by rfl) ?_; go_at_call 28; ((with_reducible refine (command_any ⟨k, a1, a2, te, ra, bu, a6, a7, a8, a9, a10, a11, ⟨la, ln, lc⟩⟩ w3).mono ?_); rw [HAS.out]; rintro e w4 ⟨rfl, hb4⟩; have HX4 := Lib.hid (HX3.out.next (by simp) hb4); have HZ4 := Lib.hid (HZ3.out.next (by simp) hb4); have HR4 := Lib.hid (LRow.below HR3.out hb4); have HB4 := Lib.hid (HB3.out.trans (hb4.mono HB3.out.size)); have hz4 : w.heap.size + 2 ≤ w4.heap.size := Nat.le_trans hz3 hb4.size; clear hb4 hz3))
    | (go_at_call 28; ((with_reducible refine (command_any ⟨k, a1, a2, te, ra, bu, a6, a7, a8, a9, a10, a11, ⟨la, ln, lc⟩⟩ w3).mono ?_); rw [HAS.out]; rintro e w4 ⟨rfl, hb4⟩; have HX4 := Lib.hid (HX3.out.next (by simp) hb4); have HZ4 := Lib.hid (HZ3.out.next (by simp) hb4); have HR4 := Lib.hid (LRow.below HR3.out hb4); have HB4 := Lib.hid (HB3.out.trans (hb4.mono HB3.out.size)); have hz4 : w.heap.size + 2 ≤ w4.heap.size := Nat.le_trans hz3 hb4.size; clear hb4 hz3))
    | (refine wpList_store_box layFce rfl (.tmp 8) (.tmp 22) rfl (⟨0, 0, 0, 0⟩ : Force) rfl rfl rfl ?_; intro w5 hf5 ht5 hb5 hs5; have HW5 : Hid (Wk w4 w5 te (t.take 0) none 0 none 0) := ⟨Gr.nil _ _, Gr.nil _ _, Apart.nil, ⟨hf5, ht5⟩, hb5, Nat.le_of_eq hs5.symm⟩; clear hf5 ht5 hb5 hs5))
  go_loopw [6, 7, 9, 10] (fun s6 s7 s9 s10 wr => ∃ (i : Nat) (p1 : Option Addr) (c1 : Nat) (p2 : Option Addr) (c2 : Nat), i ≤ t.length ∧ s10 = .int .i64 i ∧ s6 = .slice p1 (loT te (t.take i)).length c1 ∧ s7 = .slice p2 (hiT te (t.take i)).length c2 ∧ s9 = .bool (owT te (t.take i)).isSome ∧ Hid (Wk w4 wr te (t.take i) p1 c1 p2 c2)) (fun _ _ _ s10 _ => t.length - (intOf s10).toNat)
  case atStart => exact ⟨0, none, 0, none, 0, by omega, rfl, rfl, rfl, rfl, HW5.out⟩
  case round =>
    clear HW5
    obtain ⟨i, p1, c1, p2, c2, hi, rfl, rfl, rfl, rfl, HW⟩ := hrel
    by_cases hlt : i < t.length
    · obtain ⟨b, o, rfl, hcs⟩ := LRow.range HR4.out hlt
      have HRG := Lib.hid (fun w' hb => hcs w' hb)
      clear hcs
      have N1 := Lib.hid (fun h => loT_yes (te := te) hlt h)
      have N2 := Lib.hid (fun h => hiT_yes (te := te) hlt h)
      have N3 := Lib.hid (fun h => owT_yes (te := te) hlt h)
      have hlo := Lib.hid (HL1.out (t.take i))
      have hhi := Lib.hid (HL2.out (t.take i))
      have hd0 : decide ((i : Int) < (t.length : Int)) = true := decide_eq_true (by omega)
      generalize t[i] = y at HRG N1 N2 N3
      have hcell : Hid (∀ w', Wk w4 w' te (t.take i) p1 c1 p2 c2 → w'.rangeAt b (o + i * 4) y.cells ∧ w'.cell? ⟨b, o + i * 4 + 1, none⟩ = some (.int .i64 y.tenant) ∧ w'.cell? ⟨w.heap.size, 3, none⟩ = some (.int .i64 te)) := fun w' hw => ⟨HRG.out w' hw.bel, HRG.out w' hw.bel 1 _ rfl, (HX4.out.below hw.bel (by omega)).cell (j := 3) rfl⟩
      have hcel2 : Hid (∀ w', Below w4.heap.size w4 w' → w'.rangeAt b (o + i * 4) y.cells ∧ w'.cell? ⟨b, o + i * 4 + 1, none⟩ = some (.int .i64 y.tenant) ∧ w'.cell? ⟨w.heap.size, 3, none⟩ = some (.int .i64 te)) := fun w' hw => ⟨HRG.out w' hw, HRG.out w' hw 1 _ rfl, (HX4.out.below hw (by omega)).cell (j := 3) rfl⟩
      clear HRG
      obtain ⟨-, e1, e3⟩ := hcel2.out wr HW.out.bel
      rcases Int.lt_trichotomy y.tenant te with hc | hc | hc
      · obtain ⟨E1, E2, E3⟩ := N1.out hc
        have d1 : decide (y.tenant < te) = true := by simp; omega
        have d2 : decide (te < y.tenant) = false := by simp; omega
        have d3 : (y.tenant == te) = false := by simp; omega
        clear hc N1 N2 N3
        go_wp2
        refine wp_region_quiet_lit (by kernel_rfl) (by kernel_rfl) ?_
        repeat (go_big_quiet_step (fail))
        refine wpQuiet_nil ?_
        intro w6 hw'
        obtain ⟨nq, hw2⟩ := hw'
        have hb6 : Below wr.heap.size wr w6 := by rw [hw2]; exact below_drewN (Below.refl _ _) _
        clear hw2 e1 e3
        have HW6 := Lib.hid (HW.out.next hb6)
        obtain ⟨f6, e1, e3⟩ := hcel2.out w6 HW6.out.bel
        clear hb6
        go_wp2_with (first
          | (refine wpList_load_as layFce rfl (.tmp 40) rfl b (o + i * 4) rfl y y.agg rfl f6 ?_)
          | (at_builtin; refine wpList_gr1 rfl (.tmp 37) (.tmp 42) rfl (w4.heap.size + 1) p1 _ c1 (loT te (t.take i)) rfl rfl HW6.out.g1 y rfl rfl (by have := hlo.out; rw [List.length_take] at this; omega) HW6.out.siz ?_; intro p7 c7 w7 hg7 hb7 hk7; have HG7 := Lib.hid hg7; have HB7 := Lib.hid hb7; have HK7 := Lib.hid hk7; clear hg7 hb7 hk7 f6 e1 e3))
        have HW7 : Hid (Wk w4 w7 te (t.take (i + 1)) p7 c7 p2 c2) := ⟨by rw [E1]; exact HG7.out, by rw [E2]; exact (HK7.out _ _ _ HW6.out.g2 HW6.out.ap).1, (HK7.out _ _ _ HW6.out.g2 HW6.out.ap).2, by rw [E3]; exact HW6.out.box.below HB7.out (Nat.lt_succ_self _), HW6.out.bel.trans (HB7.out.mono (Nat.le_succ _)), Nat.le_trans HW6.out.siz HB7.out.size⟩
        obtain ⟨f7, e1, e3⟩ := hcel2.out w7 HW7.out.bel
        go_wp2
        refine wp_region_quiet_lit (by kernel_rfl) (by kernel_rfl) ?_
        repeat (go_big_quiet_step (fail))
        refine wpQuiet_nil ?_
        intro w8 hw'
        obtain ⟨nq, hw2⟩ := hw'
        have hb8 : Below w7.heap.size w7 w8 := by rw [hw2]; exact below_drewN (Below.refl _ _) _
        clear hw2 e1 e3
        have HW8 := Lib.hid (HW7.out.next hb8)
        obtain ⟨f8, e1, e3⟩ := hcel2.out w8 HW8.out.bel
        clear hb8
        go_wp2
        refine wp_region_quiet_lit (by kernel_rfl) (by kernel_rfl) ?_
        repeat (go_big_quiet_step (fail))
        refine wpQuiet_nil ?_
        intro w9 hw'
        obtain ⟨nq, hw2⟩ := hw'
        have hb9 : Below w8.heap.size w8 w9 := by rw [hw2]; exact below_drewN (Below.refl _ _) _
        clear hw2 e1 e3
        have HW9 := Lib.hid (HW8.out.next hb9)
        obtain ⟨f9, e1, e3⟩ := hcel2.out w9 HW9.out.bel
        clear hb9
        go_wp2
        go_roundw
        case rel => exact ⟨i + 1, p7, c7, p2, c2, by omega, by go_num, by rw [E1, List.length_append]; rfl, by rw [E2], by rw [E3], HW9.out⟩
        case measure => simp [intOf]; omega
      · obtain ⟨E1, E2, E3⟩ := N3.out hc
        have d1 : decide (y.tenant < te) = false := by simp; omega
        have d2 : decide (te < y.tenant) = false := by simp; omega
        have d3 : (y.tenant == te) = true := by simp; omega
        clear hc N1 N2 N3
        go_wp2
        refine wp_region_quiet_lit (by kernel_rfl) (by kernel_rfl) ?_
        repeat (go_big_quiet_step (fail))
        refine wpQuiet_nil ?_
        intro w6 hw'
        obtain ⟨nq, hw2⟩ := hw'
        have hb6 : Below wr.heap.size wr w6 := by rw [hw2]; exact below_drewN (Below.refl _ _) _
        clear hw2 e1 e3
        have HW6 := Lib.hid (HW.out.next hb6)
        obtain ⟨f6, e1, e3⟩ := hcel2.out w6 HW6.out.bel
        clear hb6
        go_wp2
        refine wp_region_quiet_lit (by kernel_rfl) (by kernel_rfl) ?_
        repeat (go_big_quiet_step (fail))
        refine wpQuiet_nil ?_
        intro w7 hw'
        obtain ⟨nq, hw2⟩ := hw'
        have hb7 : Below w6.heap.size w6 w7 := by rw [hw2]; exact below_drewN (Below.refl _ _) _
        clear hw2 e1 e3
        have HW7 := Lib.hid (HW6.out.next hb7)
        obtain ⟨f7, e1, e3⟩ := hcel2.out w7 HW7.out.bel
        clear hb7
        go_wp2
        refine wp_region_quiet_lit (by kernel_rfl) (by kernel_rfl) ?_
        repeat (go_big_quiet_step (fail))
        refine wpQuiet_nil ?_
        intro w8 hw'
        obtain ⟨nq, hw2⟩ := hw'
        have hb8 : Below w7.heap.size w7 w8 := by rw [hw2]; exact below_drewN (Below.refl _ _) _
        clear hw2 e1 e3
        have HW8 := Lib.hid (HW7.out.next hb8)
        obtain ⟨f8, e1, e3⟩ := hcel2.out w8 HW8.out.bel
        clear hb8
        go_wp2_with (first
          | (refine wpList_load_as layFce rfl (.tmp 69) rfl b (o + i * 4) rfl y y.agg rfl f8 ?_)
          | (refine wpList_store_whole layFce rfl (.tmp 8) (.tmp 70) rfl w4.heap.size y _ rfl rfl HW8.out.box rfl ?_; intro w9 hz9 hw9; have HZ9 := Lib.hid hz9; have HV9 := Lib.hid hw9; clear hz9 hw9 f8 e1 e3))
        have hkp : ∀ (aa : Option Addr) (cc : Nat) (ys : List Force), Gr w8 (w4.heap.size + 1) aa cc ys → Gr w9 (w4.heap.size + 1) aa cc ys := fun aa cc ys g => ⟨can_mid (B := w4.heap.size + 1) (E := w8.heap.size) g.can ((Mid.refl _ _ _).other HV9.out.keep HV9.out.size (.inl (Nat.lt_succ_self _))) (fun b o s e => .inl (g.base b o s e).1) (Nat.le_refl _) (Nat.le_refl _), fun b o s e => ⟨(g.base b o s e).1, by rw [HV9.out.size]; exact (g.base b o s e).2⟩⟩
        have HW9 : Hid (Wk w4 w9 te (t.take (i + 1)) p1 c1 p2 c2) := ⟨by rw [E1]; exact hkp _ _ _ HW8.out.g1, by rw [E2]; exact hkp _ _ _ HW8.out.g2, HW8.out.ap, by rw [E3]; exact HZ9.out, HW8.out.bel.trans (HV9.out.below _ (Nat.le_refl _)), by rw [HV9.out.size]; exact HW8.out.siz⟩
        go_roundw
        case rel => exact ⟨i + 1, p1, c1, p2, c2, by omega, by go_num, by rw [E1], by rw [E2], by rw [E3]; rfl, HW9.out⟩
        case measure => simp [intOf]; omega
      · obtain ⟨E1, E2, E3⟩ := N2.out hc
        have d1 : decide (y.tenant < te) = false := by simp; omega
        have d2 : decide (te < y.tenant) = true := by simp; omega
        have d3 : (y.tenant == te) = false := by simp; omega
        clear hc N1 N2 N3
        go_wp2
        refine wp_region_quiet_lit (by kernel_rfl) (by kernel_rfl) ?_
        repeat (go_big_quiet_step (fail))
        refine wpQuiet_nil ?_
        intro w6 hw'
        obtain ⟨nq, hw2⟩ := hw'
        have hb6 : Below wr.heap.size wr w6 := by rw [hw2]; exact below_drewN (Below.refl _ _) _
        clear hw2 e1 e3
        have HW6 := Lib.hid (HW.out.next hb6)
        obtain ⟨f6, e1, e3⟩ := hcel2.out w6 HW6.out.bel
        clear hb6
        go_wp2
        refine wp_region_quiet_lit (by kernel_rfl) (by kernel_rfl) ?_
        repeat (go_big_quiet_step (fail))
        refine wpQuiet_nil ?_
        intro w7 hw'
        obtain ⟨nq, hw2⟩ := hw'
        have hb7 : Below w6.heap.size w6 w7 := by rw [hw2]; exact below_drewN (Below.refl _ _) _
        clear hw2 e1 e3
        have HW7 := Lib.hid (HW6.out.next hb7)
        obtain ⟨f7, e1, e3⟩ := hcel2.out w7 HW7.out.bel
        clear hb7
        go_wp2_with (first
          | (refine wpList_load_as layFce rfl (.tmp 55) rfl b (o + i * 4) rfl y y.agg rfl f7 ?_)
          | (at_builtin; refine wpList_gr1 rfl (.tmp 52) (.tmp 57) rfl (w4.heap.size + 1) p2 _ c2 (hiT te (t.take i)) rfl rfl HW7.out.g2 y rfl rfl (by have := hhi.out; rw [List.length_take] at this; omega) HW7.out.siz ?_; intro p7 c7 w8 hg7 hb7 hk7; have HG7 := Lib.hid hg7; have HB7 := Lib.hid hb7; have HK7 := Lib.hid hk7; clear hg7 hb7 hk7 f7 e1 e3))
        have HW8 : Hid (Wk w4 w8 te (t.take (i + 1)) p1 c1 p7 c7) := ⟨by rw [E1]; exact (HK7.out _ _ _ HW7.out.g1 HW7.out.ap.symm).1, by rw [E2]; exact HG7.out, (HK7.out _ _ _ HW7.out.g1 HW7.out.ap.symm).2.symm, by rw [E3]; exact HW7.out.box.below HB7.out (Nat.lt_succ_self _), HW7.out.bel.trans (HB7.out.mono (Nat.le_succ _)), Nat.le_trans HW7.out.siz HB7.out.size⟩
        obtain ⟨f8, e1, e3⟩ := hcel2.out w8 HW8.out.bel
        go_wp2
        refine wp_region_quiet_lit (by kernel_rfl) (by kernel_rfl) ?_
        repeat (go_big_quiet_step (fail))
        refine wpQuiet_nil ?_
        intro w9 hw'
        obtain ⟨nq, hw2⟩ := hw'
        have hb9 : Below w8.heap.size w8 w9 := by rw [hw2]; exact below_drewN (Below.refl _ _) _
        clear hw2 e1 e3
        have HW9 := Lib.hid (HW8.out.next hb9)
        obtain ⟨f9, e1, e3⟩ := hcel2.out w9 HW9.out.bel
        clear hb9
        go_wp2
        go_roundw
        case rel => exact ⟨i + 1, p1, c1, p7, c7, by omega, by go_num, by rw [E1], by rw [E2, List.length_append]; rfl, by rw [E3], HW9.out⟩
        case measure => simp [intOf]; omega
    · obtain rfl : i = t.length := by omega
      rw [List.take_length] at HW ⊢
      have hd0 : decide ((t.length : Int) < (t.length : Int)) = false := decide_eq_false (by omega)
      have hlo := Lib.hid (HL1.out t)
      have hhi := Lib.hid (HL2.out t)
      have HXr := Lib.hid (HX4.out.below HW.out.bel (by omega))
      have HZr := Lib.hid (HZ4.out.below HW.out.bel (by omega))
      have HRr := Lib.hid (LRow.below HR4.out HW.out.bel)
      have HBr := Lib.hid (HB4.out.trans (HW.out.bel.mono HB4.out.size))
      have hzr : w.heap.size + 2 ≤ wr.heap.size := Nat.le_trans hz4 HW.out.bel.size
      by_cases hk : k = 1
      · have hq1 : (k == 1) = true := by rw [beq_iff_eq]; exact hk
        rcases hm : mayB ra bu with _ | _
        · have EQ1 := F1.out hk hm
          subst EQ1
          have HM := Lib.hid hm
          clear hk hm F1 F2 F3 F4 F5
          have e0 := HXr.out.cell (j := 0) rfl
          have e4 := HXr.out.cell (j := 4) rfl
          have e5 := HXr.out.cell (j := 5) rfl
          go_wp2_with (first
            | (go_at_call 30; ((with_reducible refine (refmay_any ra bu wr).mono ?_); rw [HM.out]; rintro e w7 ⟨rfl, rfl⟩))
            | (go_at_call 29; ((with_reducible refine (refcopied_any t _ t.length c wr rfl hl HRr.out).mono ?_); rintro e w5 ⟨a5, c5, rfl, hle5, hno5, hr5, hnr5, hb5⟩; have HX5 := Lib.hid (HXr.out.next (by simp) hb5); have HZ5 := Lib.hid (HZr.out.next (by simp) hb5); have HR5 := Lib.hid (LRow.below HRr.out hb5); have HB5 := Lib.hid (HBr.out.trans (hb5.mono HBr.out.size)); have hz5 : w.heap.size + 2 ≤ w5.heap.size := Nat.le_trans hzr hb5.size; have HQ5 := Lib.hid hr5; have HN5 := Lib.hid hnr5; have hno5' := Lib.hid hno5; clear hr5 hnr5 hno5 hb5))
            | (refine wpList_store_whole layAns rfl (.tmp 5) (.tmp 82) rfl (w.heap.size + 1) (Ans.err 160) [.int .i64 0, .int .i64 0, .int .i64 0, .int .i64 0, .int .i64 0] rfl rfl HZ5.out rfl ?_; intro w9 hz9 hw9; have HZ9 := Lib.hid hz9; have HW9 := Lib.hid hw9; clear hz9 hw9))
          (try simp only [Exit.inBlock, Exit.then])
          refine bodyPost_ret (results_ans rfl _ _ (w.heap.size + 1) (Ans.err 160) rfl HZ9.out.range) rfl ?_
          exact ⟨a5, c5, rfl, hle5, hno5'.out, row_wrote HQ5.out HW9.out HN5.out (by omega), near_le HN5.out (by omega), HB5.out.trans (HW9.out.below _ (by omega))⟩
        · have EQ2 := F2.out hk hm
          subst EQ2
          have HM := Lib.hid hm
          clear hk hm F1 F2 F3 F4 F5
          have e0 := HXr.out.cell (j := 0) rfl
          have e3 := HXr.out.cell (j := 3) rfl
          have e4 := HXr.out.cell (j := 4) rfl
          have e5 := HXr.out.cell (j := 5) rfl
          go_wp2_with (first
            | (go_at_call 30; ((with_reducible refine (refmay_any ra bu wr).mono ?_); rw [HM.out]; rintro e w7 ⟨rfl, rfl⟩))
            | (at_builtin; refine wpList_gr1 rfl (.tmp 83) (.tmp 91) rfl (w4.heap.size + 1) p1 _ c1 (loT te t) rfl rfl HW.out.g1 (⟨0, te, ra, bu⟩ : Force) rfl rfl (by have := hlo.out; omega) HW.out.siz ?_; intro p7 c7 w7 hg7 hb7 hk7; have HG7 := Lib.hid hg7; have HB7 := Lib.hid hb7; have HG2 := Lib.hid (hk7 _ _ _ HW.out.g2 HW.out.ap).1; have hs7 := Nat.le_trans HW.out.siz hb7.size; clear hg7 hb7 hk7 e0 e3 e4 e5))
          have HX7 := Lib.hid (HXr.out.below HB7.out (by have := HW.out.bel.size; omega))
          have HZ7 := Lib.hid (HZr.out.below HB7.out (by omega))
          have HB77 := Lib.hid (HBr.out.trans (HB7.out.mono (by have := HB4.out.size; omega)))
          have HK : Hid (∀ w', Box w' w.heap.size [.int .i8 k, .int .i64 a1, .int .i64 a2, .int .i64 te, .int .i64 ra, .int .i64 bu, .int .i64 a6, .int .i64 a7, .int .i64 a8, .int .i64 a9, .int .i64 a10, .bool a11, .slice la ln lc] → w'.cell? ⟨w.heap.size, 4, none⟩ = some (.int .i64 ra) ∧ w'.cell? ⟨w.heap.size, 5, none⟩ = some (.int .i64 bu)) := fun w' x => ⟨x.cell (j := 4) rfl, x.cell (j := 5) rfl⟩
          refine wp_region_held_drew (S := (fun w' => w'.cell? ⟨w.heap.size, 4, none⟩ = some (.int .i64 ra) ∧ w'.cell? ⟨w.heap.size, 5, none⟩ = some (.int .i64 bu))) (by kernel_rfl) (HK.out _ HX7.out.drew) (fun hHeld => ?_)
          refine wpAnyH_take (i := 0) (oi := _) (v := ?v0_1) rfl (by kernel_rfl) (by kernel_rfl) (by kernel_rfl) (fun _ _ _ h => h) (Or.inl ⟨by rfl, ?hy0_1⟩) (by assumption) ?rest0_1
          case hy0_1 =>
            intro w hSw
            (try dsimp only at hSw)
            go_simp
            rfl
          case' rest0_1 => try simp only [Act.put, List.setIfInBounds_toArray, List.set_cons_zero, List.set_cons_succ, List.getElem_toArray, List.getElem_cons_zero, List.getElem_cons_succ]
          refine wpAnyH_take (i := 1) (oi := _) (v := ?v1_2) rfl (by kernel_rfl) (by kernel_rfl) (by kernel_rfl) (fun _ _ _ h => h) (Or.inl ⟨by rfl, ?hy1_2⟩) (by assumption) ?rest1_2
          case hy1_2 =>
            intro w hSw
            (try dsimp only at hSw)
            go_simp
            rfl
          case' rest1_2 => try simp only [Act.put, List.setIfInBounds_toArray, List.set_cons_zero, List.set_cons_succ, List.getElem_toArray, List.getElem_cons_zero, List.getElem_cons_succ]
          refine wpAnyH_take (i := 3) (oi := _) (v := ?v3_3) rfl (by kernel_rfl) (by kernel_rfl) (by kernel_rfl) (fun _ _ _ h => h) (Or.inl ⟨by rfl, ?hy3_3⟩) (by assumption) ?rest3_3
          case hy3_3 =>
            intro w hSw
            (try dsimp only at hSw)
            go_simp
            rfl
          case' rest3_3 => try simp only [Act.put, List.setIfInBounds_toArray, List.set_cons_zero, List.set_cons_succ, List.getElem_toArray, List.getElem_cons_zero, List.getElem_cons_succ]
          refine wpAnyH_take (i := 4) (oi := _) (v := ?v4_4) rfl (by kernel_rfl) (by kernel_rfl) (by kernel_rfl) (fun _ _ _ h => h) (Or.inl ⟨by rfl, ?hy4_4⟩) (by assumption) ?rest4_4
          case hy4_4 =>
            intro w hSw
            (try dsimp only at hSw)
            go_simp
            rfl
          case' rest4_4 => try simp only [Act.put, List.setIfInBounds_toArray, List.set_cons_zero, List.set_cons_succ, List.getElem_toArray, List.getElem_cons_zero, List.getElem_cons_succ]
          refine wpAnyH_take (i := 5) (oi := _) (v := ?v5_5) rfl (by kernel_rfl) (by kernel_rfl) (by kernel_rfl) (fun _ _ _ h => h) (Or.inl ⟨by rfl, ?hy5_5⟩) (by assumption) ?rest5_5
          case hy5_5 =>
            intro w hSw
            (try dsimp only at hSw)
            go_simp
            rfl
          case' rest5_5 => try simp only [Act.put, List.setIfInBounds_toArray, List.set_cons_zero, List.set_cons_succ, List.getElem_toArray, List.getElem_cons_zero, List.getElem_cons_succ]
          refine wpAnyH_take (i := 6) (oi := _) (v := ?v6_6) rfl (by kernel_rfl) (by kernel_rfl) (by kernel_rfl) (fun _ _ _ h => h) (Or.inl ⟨by rfl, ?hy6_6⟩) (by assumption) ?rest6_6
          case hy6_6 =>
            intro w hSw
            (try dsimp only at hSw)
            go_simp
            rfl
          case' rest6_6 => try simp only [Act.put, List.setIfInBounds_toArray, List.set_cons_zero, List.set_cons_succ, List.getElem_toArray, List.getElem_cons_zero, List.getElem_cons_succ]
          refine wpAnyH_take (i := 7) (oi := _) (v := ?v7_7) rfl (by kernel_rfl) (by kernel_rfl) (by kernel_rfl) (fun _ _ _ h => h) (Or.inl ⟨by rfl, ?hy7_7⟩) (by assumption) ?rest7_7
          case hy7_7 =>
            intro w hSw
            (try dsimp only at hSw)
            go_simp
            rfl
          case' rest7_7 => try simp only [Act.put, List.setIfInBounds_toArray, List.set_cons_zero, List.set_cons_succ, List.getElem_toArray, List.getElem_cons_zero, List.getElem_cons_succ]
          refine wpAnyH_ready (rs := [2]) (by kernel_rfl) (by simp) ?_
          refine AllReadyH.cons (o := _) rfl (fun K hK => ?_) AllReadyH.nil
          refine step_grn rfl (.tmp 93) (.tmp 94) rfl (w4.heap.size + 1) p7 _ c7 (loT te t ++ [(⟨0, te, ra, bu⟩ : Force)]) (by rw [List.length_append]; rfl) rfl (HG7.out.below (Below.refl _ _).drew) p2 _ c2 (hiT te t) rfl rfl (LRow.below HG2.out.can.row (Below.refl _ _).drew) (by have := hlo.out; omega) (by have := hhi.out; omega) hs7 ?_
          intro p8 c8 w8 hcan8 hb8 hnr8
          have HC8 := Lib.hid hcan8
          have HN8 := Lib.hid hnr8
          have hb8' : Below (w4.heap.size + 1) w7 w8 := ((Below.refl _ w7).drew).trans hb8
          have HX8 := Lib.hid (HX7.out.below hb8' (by omega))
          have HZ8 := Lib.hid (HZ7.out.below hb8' (by omega))
          have HB8 := Lib.hid (HB77.out.trans (hb8'.mono (by have := HB4.out.size; omega)))
          have P9 : Hid (Box (((((w8.setCell ⟨w.heap.size + 1, 0, none⟩ (.int .i64 0)).setCell ⟨w.heap.size + 1, 1, none⟩ (.int .i64 ra)).setCell ⟨w.heap.size + 1, 2, none⟩ (.int .i64 bu)).setCell ⟨w.heap.size + 1, 3, none⟩ (.int .i64 0)).setCell ⟨w.heap.size + 1, 4, none⟩ (.int .i64 0)) (w.heap.size + 1) (layAns.cells ⟨0, ra, bu, 0, 0⟩) ∧ Wrote (w.heap.size + 1) w8 (((((w8.setCell ⟨w.heap.size + 1, 0, none⟩ (.int .i64 0)).setCell ⟨w.heap.size + 1, 1, none⟩ (.int .i64 ra)).setCell ⟨w.heap.size + 1, 2, none⟩ (.int .i64 bu)).setCell ⟨w.heap.size + 1, 3, none⟩ (.int .i64 0)).setCell ⟨w.heap.size + 1, 4, none⟩ (.int .i64 0))) := box_put (L := layAns) ⟨0, ra, bu, 0, 0⟩ HZ8.out rfl
          clear hcan8 hnr8 hb8 hb8'
          clear hHeld
          refine hK.out _ _ (HK.out _ HX8.out) (fun hHeld => ?_)
          clear hK K
          try simp only [Act.put, List.setIfInBounds_toArray, List.set_cons_zero, List.set_cons_succ, List.getElem_toArray, List.getElem_cons_zero, List.getElem_cons_succ]
          refine wpAnyH_take (i := 8) (oi := _) (v := ?v8_8) rfl (by kernel_rfl) (by kernel_rfl) (by kernel_rfl) (fun _ _ _ h => h) (Or.inl ⟨by rfl, ?hy8_8⟩) (by assumption) ?rest8_8
          case hy8_8 =>
            intro w hSw
            (try dsimp only at hSw)
            go_simp
            rfl
          case' rest8_8 => try simp only [Act.put, List.setIfInBounds_toArray, List.set_cons_zero, List.set_cons_succ, List.getElem_toArray, List.getElem_cons_zero, List.getElem_cons_succ]
          refine wpAnyH_ready (rs := [9]) (by kernel_rfl) (by simp) ?_
          refine AllReadyH.cons (o := _) rfl (fun K hK => ?_) AllReadyH.nil
          obtain ⟨a0, p1', p2', a3', a4'⟩ := (⟨HZ8.out.cell (j := 0) rfl, HZ8.out.cell (j := 1) rfl, HZ8.out.cell (j := 2) rfl, HZ8.out.cell (j := 3) rfl, HZ8.out.cell (j := 4) rfl⟩ : _ ∧ _ ∧ _ ∧ _ ∧ _)
          have y0' := HZ8.out.froz (j := 0) (show 0 < 5 by decide)
          have y1' := HZ8.out.froz (j := 1) (show 1 < 5 by decide)
          have y2' := HZ8.out.froz (j := 2) (show 2 < 5 by decide)
          have y3' := HZ8.out.froz (j := 3) (show 3 < 5 by decide)
          have y4' := HZ8.out.froz (j := 4) (show 4 < 5 by decide)
          go_simp
          clear a0 p1' p2' a3' a4' y0' y1' y2' y3' y4'
          clear hHeld
          refine hK.out _ _ (HK.out _ (HX8.out.wrote P9.out.2 (by omega))) (fun hHeld => ?_)
          clear hK K
          try simp only [Act.put, List.setIfInBounds_toArray, List.set_cons_zero, List.set_cons_succ, List.getElem_toArray, List.getElem_cons_zero, List.getElem_cons_succ]
          refine wpAnyH_done (by kernel_rfl) ?_ _
          clear hHeld
          go_wp2_with fail
          (try simp only [Exit.inBlock, Exit.then])
          refine bodyPost_ret (results_ans rfl _ _ (w.heap.size + 1) ⟨0, ra, bu, 0, 0⟩ rfl P9.out.1.range) rfl ?_
          exact ⟨p8, c8, by rw [show (loT te t ++ [(⟨0, te, ra, bu⟩ : Force)] ++ hiT te t).length = (loT te t).length + 1 + (hiT te t).length by simp; omega]; rfl, HC8.out.le, HC8.out.none (by decide), row_wrote HC8.out.row P9.out.2 HN8.out (by omega), near_le HN8.out (by omega), HB8.out.trans (P9.out.2.below _ (by omega))⟩
      · have hq1 : (k == 1) = false := by rw [beq_eq_false_iff_ne]; exact hk
        rcases ho : owT te t with _ | f
        · have EQ3 := F3.out hk ho
          subst EQ3
          clear hk F1 F2 F3 F4 F5
          have e0 := HXr.out.cell (j := 0) rfl
          go_wp2_with (first
            | (go_at_call 29; ((with_reducible refine (refcopied_any t _ t.length c wr rfl hl HRr.out).mono ?_); rintro e w5 ⟨a5, c5, rfl, hle5, hno5, hr5, hnr5, hb5⟩; have HX5 := Lib.hid (HXr.out.next (by simp) hb5); have HZ5 := Lib.hid (HZr.out.next (by simp) hb5); have HR5 := Lib.hid (LRow.below HRr.out hb5); have HB5 := Lib.hid (HBr.out.trans (hb5.mono HBr.out.size)); have hz5 : w.heap.size + 2 ≤ w5.heap.size := Nat.le_trans hzr hb5.size; have HQ5 := Lib.hid hr5; have HN5 := Lib.hid hnr5; have hno5' := Lib.hid hno5; clear hr5 hnr5 hno5 hb5))
            | (refine wpList_store_whole layAns rfl (.tmp 5) (.tmp 105) rfl (w.heap.size + 1) (Ans.err 161) [.int .i64 0, .int .i64 0, .int .i64 0, .int .i64 0, .int .i64 0] rfl rfl HZ5.out rfl ?_; intro w9 hz9 hw9; have HZ9 := Lib.hid hz9; have HW9 := Lib.hid hw9; clear hz9 hw9))
          (try simp only [Exit.inBlock, Exit.then])
          refine bodyPost_ret (results_ans rfl _ _ (w.heap.size + 1) (Ans.err 161) rfl HZ9.out.range) rfl ?_
          exact ⟨a5, c5, rfl, hle5, hno5'.out, row_wrote HQ5.out HW9.out HN5.out (by omega), near_le HN5.out (by omega), HB5.out.trans (HW9.out.below _ (by omega))⟩
        · by_cases hk2 : k = 2
          · have hq2 : (k == 2) = true := by rw [beq_iff_eq]; exact hk2
            have EQ4 := F4.out f hk2 ho
            subst EQ4
            have hbx := HW.out.box
            rw [ho] at hbx
            have HO := Lib.hid (show Box wr w4.heap.size f.cells from hbx)
            clear hbx hk hk2 F1 F2 F3 F4 F5
            have e0 := HXr.out.cell (j := 0) rfl
            go_wp2_with fail
            clear e0
            have HK : Hid (∀ w', Box w' w4.heap.size f.cells → w'.cell? ⟨w4.heap.size, 2, none⟩ = some (.int .i64 f.rate) ∧ w'.cell? ⟨w4.heap.size, 3, none⟩ = some (.int .i64 f.burst)) := fun w' x => ⟨x.cell (j := 2) rfl, x.cell (j := 3) rfl⟩
            refine wp_region_held_drew (S := (fun w' => w'.cell? ⟨w4.heap.size, 2, none⟩ = some (.int .i64 f.rate) ∧ w'.cell? ⟨w4.heap.size, 3, none⟩ = some (.int .i64 f.burst))) (by kernel_rfl) (HK.out _ HO.out.drew) (fun hHeld => ?_)
            refine wpAnyH_take (i := 0) (oi := _) (v := ?v0_9) rfl (by kernel_rfl) (by kernel_rfl) (by kernel_rfl) (fun _ _ _ h => h) (Or.inl ⟨by rfl, ?hy0_9⟩) (by assumption) ?rest0_9
            case hy0_9 =>
              intro w hSw
              (try dsimp only at hSw)
              go_simp
              rfl
            case' rest0_9 => try simp only [Act.put, List.setIfInBounds_toArray, List.set_cons_zero, List.set_cons_succ, List.getElem_toArray, List.getElem_cons_zero, List.getElem_cons_succ]
            refine wpAnyH_take (i := 2) (oi := _) (v := ?v2_10) rfl (by kernel_rfl) (by kernel_rfl) (by kernel_rfl) (fun _ _ _ h => h) (Or.inl ⟨by rfl, ?hy2_10⟩) (by assumption) ?rest2_10
            case hy2_10 =>
              intro w hSw
              (try dsimp only at hSw)
              go_simp
              rfl
            case' rest2_10 => try simp only [Act.put, List.setIfInBounds_toArray, List.set_cons_zero, List.set_cons_succ, List.getElem_toArray, List.getElem_cons_zero, List.getElem_cons_succ]
            refine wpAnyH_take (i := 3) (oi := _) (v := ?v3_11) rfl (by kernel_rfl) (by kernel_rfl) (by kernel_rfl) (fun _ _ _ h => h) (Or.inl ⟨by rfl, ?hy3_11⟩) (by assumption) ?rest3_11
            case hy3_11 =>
              intro w hSw
              (try dsimp only at hSw)
              go_simp
              rfl
            case' rest3_11 => try simp only [Act.put, List.setIfInBounds_toArray, List.set_cons_zero, List.set_cons_succ, List.getElem_toArray, List.getElem_cons_zero, List.getElem_cons_succ]
            refine wpAnyH_take (i := 4) (oi := _) (v := ?v4_12) rfl (by kernel_rfl) (by kernel_rfl) (by kernel_rfl) (fun _ _ _ h => h) (Or.inl ⟨by rfl, ?hy4_12⟩) (by assumption) ?rest4_12
            case hy4_12 =>
              intro w hSw
              (try dsimp only at hSw)
              go_simp
              rfl
            case' rest4_12 => try simp only [Act.put, List.setIfInBounds_toArray, List.set_cons_zero, List.set_cons_succ, List.getElem_toArray, List.getElem_cons_zero, List.getElem_cons_succ]
            refine wpAnyH_take (i := 5) (oi := _) (v := ?v5_13) rfl (by kernel_rfl) (by kernel_rfl) (by kernel_rfl) (fun _ _ _ h => h) (Or.inl ⟨by rfl, ?hy5_13⟩) (by assumption) ?rest5_13
            case hy5_13 =>
              intro w hSw
              (try dsimp only at hSw)
              go_simp
              rfl
            case' rest5_13 => try simp only [Act.put, List.setIfInBounds_toArray, List.set_cons_zero, List.set_cons_succ, List.getElem_toArray, List.getElem_cons_zero, List.getElem_cons_succ]
            refine wpAnyH_take (i := 6) (oi := _) (v := ?v6_14) rfl (by kernel_rfl) (by kernel_rfl) (by kernel_rfl) (fun _ _ _ h => h) (Or.inl ⟨by rfl, ?hy6_14⟩) (by assumption) ?rest6_14
            case hy6_14 =>
              intro w hSw
              (try dsimp only at hSw)
              go_simp
              rfl
            case' rest6_14 => try simp only [Act.put, List.setIfInBounds_toArray, List.set_cons_zero, List.set_cons_succ, List.getElem_toArray, List.getElem_cons_zero, List.getElem_cons_succ]
            refine wpAnyH_ready (rs := [1]) (by kernel_rfl) (by simp) ?_
            refine AllReadyH.cons (o := _) rfl (fun K hK => ?_) AllReadyH.nil
            go_simp
            go_at_call 29
            with_reducible refine (refcopied_any t _ t.length c wr.drew rfl hl (LRow.below HRr.out (Below.refl _ _).drew)).mono ?_
            rintro e w8 ⟨p8, c8, rfl, hle8, hno8, hr8, hnr8, hb8a⟩
            have hb8 : Below wr.heap.size wr w8 := ((Below.refl _ wr).drew).trans hb8a
            have HO8 := Lib.hid (HO.out.next (by simp) hb8)
            have HZ8 := Lib.hid (HZr.out.next (by simp) hb8)
            have HB8 := Lib.hid (HBr.out.trans (hb8.mono HBr.out.size))
            have HQ8 := Lib.hid hr8
            have HN8 : Hid (Near wr.heap.size none p8) := hnr8
            have HF8 := Lib.hid hno8
            have P9 : Hid (Box (((((w8.setCell ⟨w.heap.size + 1, 0, none⟩ (.int .i64 0)).setCell ⟨w.heap.size + 1, 1, none⟩ (.int .i64 f.rate)).setCell ⟨w.heap.size + 1, 2, none⟩ (.int .i64 f.burst)).setCell ⟨w.heap.size + 1, 3, none⟩ (.int .i64 0)).setCell ⟨w.heap.size + 1, 4, none⟩ (.int .i64 0)) (w.heap.size + 1) (layAns.cells ⟨0, f.rate, f.burst, 0, 0⟩) ∧ Wrote (w.heap.size + 1) w8 (((((w8.setCell ⟨w.heap.size + 1, 0, none⟩ (.int .i64 0)).setCell ⟨w.heap.size + 1, 1, none⟩ (.int .i64 f.rate)).setCell ⟨w.heap.size + 1, 2, none⟩ (.int .i64 f.burst)).setCell ⟨w.heap.size + 1, 3, none⟩ (.int .i64 0)).setCell ⟨w.heap.size + 1, 4, none⟩ (.int .i64 0))) := box_put (L := layAns) ⟨0, f.rate, f.burst, 0, 0⟩ HZ8.out rfl
            clear hr8 hnr8 hb8 hb8a hno8
            clear hHeld
            refine hK.out _ _ (HK.out _ HO8.out) (fun hHeld => ?_)
            clear hK K
            try simp only [Act.put, List.setIfInBounds_toArray, List.set_cons_zero, List.set_cons_succ, List.getElem_toArray, List.getElem_cons_zero, List.getElem_cons_succ]
            refine wpAnyH_take (i := 7) (oi := _) (v := ?v7_15) rfl (by kernel_rfl) (by kernel_rfl) (by kernel_rfl) (fun _ _ _ h => h) (Or.inl ⟨by rfl, ?hy7_15⟩) (by assumption) ?rest7_15
            case hy7_15 =>
              intro w hSw
              (try dsimp only at hSw)
              go_simp
              rfl
            case' rest7_15 => try simp only [Act.put, List.setIfInBounds_toArray, List.set_cons_zero, List.set_cons_succ, List.getElem_toArray, List.getElem_cons_zero, List.getElem_cons_succ]
            refine wpAnyH_ready (rs := [8]) (by kernel_rfl) (by simp) ?_
            refine AllReadyH.cons (o := _) rfl (fun K hK => ?_) AllReadyH.nil
            obtain ⟨a0, p1', p2', a3', a4'⟩ := (⟨HZ8.out.cell (j := 0) rfl, HZ8.out.cell (j := 1) rfl, HZ8.out.cell (j := 2) rfl, HZ8.out.cell (j := 3) rfl, HZ8.out.cell (j := 4) rfl⟩ : _ ∧ _ ∧ _ ∧ _ ∧ _)
            have y0' := HZ8.out.froz (j := 0) (show 0 < 5 by decide)
            have y1' := HZ8.out.froz (j := 1) (show 1 < 5 by decide)
            have y2' := HZ8.out.froz (j := 2) (show 2 < 5 by decide)
            have y3' := HZ8.out.froz (j := 3) (show 3 < 5 by decide)
            have y4' := HZ8.out.froz (j := 4) (show 4 < 5 by decide)
            go_simp
            clear a0 p1' p2' a3' a4' y0' y1' y2' y3' y4'
            clear hHeld
            refine hK.out _ _ (HK.out _ (HO8.out.wrote P9.out.2 (by omega))) (fun hHeld => ?_)
            clear hK K
            try simp only [Act.put, List.setIfInBounds_toArray, List.set_cons_zero, List.set_cons_succ, List.getElem_toArray, List.getElem_cons_zero, List.getElem_cons_succ]
            refine wpAnyH_done (by kernel_rfl) ?_ _
            clear hHeld
            go_wp2_with fail
            (try simp only [Exit.inBlock, Exit.then])
            refine bodyPost_ret (results_ans rfl _ _ (w.heap.size + 1) ⟨0, f.rate, f.burst, 0, 0⟩ rfl P9.out.1.range) rfl ?_
            exact ⟨p8, c8, rfl, hle8, HF8.out, row_wrote HQ8.out P9.out.2 HN8.out (by omega), near_le HN8.out (by omega), HB8.out.trans (P9.out.2.below _ (by omega))⟩
          · have hq2 : (k == 2) = false := by rw [beq_eq_false_iff_ne]; exact hk2
            have EQ5 := F5.out f hk hk2 ho
            subst EQ5
            clear hk hk2 F1 F2 F3 F4 F5
            have e0 := HXr.out.cell (j := 0) rfl
            go_wp2_with (first
              | (at_builtin; refine wpList_grn rfl (.tmp 116) (.tmp 117) rfl (w4.heap.size + 1) p1 _ c1 (loT te t) rfl rfl HW.out.g1 p2 _ c2 (hiT te t) rfl rfl HW.out.g2.can.row (by have := hlo.out; omega) (by have := hhi.out; omega) HW.out.siz ?_; intro p8 c8 w8 hcan8 hb8 hnr8; have HC8 := Lib.hid hcan8; have HN8 := Lib.hid hnr8; have HZ8 := Lib.hid (HZr.out.below hb8 (by omega)); have hsb := HB4.out.size; have HB8 := Lib.hid (HBr.out.trans (hb8.mono (by omega))); clear hcan8 hnr8 hb8 e0)
              | (refine wpList_store_whole layAns rfl (.tmp 5) (.tmp 119) rfl (w.heap.size + 1) (Ans.err 0) [.int .i64 0, .int .i64 0, .int .i64 0, .int .i64 0, .int .i64 0] rfl rfl HZ8.out rfl ?_; intro w9 hz9 hw9; have HZ9 := Lib.hid hz9; have HW9 := Lib.hid hw9; clear hz9 hw9))
            (try simp only [Exit.inBlock, Exit.then])
            refine bodyPost_ret (results_ans rfl _ _ (w.heap.size + 1) (Ans.err 0) rfl HZ9.out.range) rfl ?_
            exact ⟨p8, c8, by rw [List.length_append]; rfl, HC8.out.le, HC8.out.none (by decide), row_wrote HC8.out.row HW9.out HN8.out (by omega), near_le HN8.out (by omega), HB8.out.trans (HW9.out.below _ (by omega))⟩
end Go.Proofs.YtkboojpkkhiceaaDoor
