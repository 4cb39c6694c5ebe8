import Derived.Test.YtkboojpkkhiceaaDoorHisMay
import Derived.Test.YtkboojpkkhiceaaDoorPackHistoryDoes1
set_option linter.unusedVariables false
set_option linter.unusedSimpArgs false
/- May a table be, both sides. (printed by gen_histab.py) -/
namespace Go.Proofs.YtkboojpkkhiceaaDoor
open Go.ChangeShapes Go.WideShapes Go.ChangeAt Go.RowKit
set_option maxRecDepth 100000

theorem tab_next {l : List Force} {k : Nat} (h : k < l.length) (hk : tabOk (l.take k) = true) (h0 : l[k].tick = 0) (h1 : lastKey Force.tenant 0 (l.take k) < l[k].tenant) (h2 : l[k].tenant ≤ 16) (h3 : mayB l[k].rate l[k].burst = true) : tabOk (l.take (k + 1)) = true := by
  unfold tabOk at *
  rw [chainOk_take h, hk]
  simp [goodT, h0, h1, h2, h3]
theorem tab_bad {l : List Force} {k : Nat} (h : k < l.length) (h1 : ¬ (l[k].tick = 0 ∧ lastKey Force.tenant 0 (l.take k) < l[k].tenant ∧ l[k].tenant ≤ 16 ∧ mayB l[k].rate l[k].burst = true)) : tabOk l = false := by
  refine chainOk_bad h ?_
  unfold goodT
  by_cases z : l[k].tick = 0 <;> by_cases a : lastKey Force.tenant 0 (l.take k) < l[k].tenant <;> by_cases b : l[k].tenant ≤ 16 <;> by_cases c : mayB l[k].rate l[k].burst = true <;> simp [z, a, b, c]
  exact h1 ⟨z, a, b, c⟩
theorem refmay_q (r bu : Int) (w : World) (b : Bool) (hb : mayB r bu = b) : Calls Tryd.prog 30 #[.int .i64 r, .int .i64 bu] w fun e w' => e = .returned (.bool b) ∧ w' = w :=
  (refmay_any r bu w).mono (by rintro e w' ⟨rfl, rfl⟩; exact ⟨by rw [hb], rfl⟩)
set_option maxHeartbeats 4000000 in
theorem mayt_any (l : List Force) (a : Option Addr) (n c : Nat) (w : World) (hn : l.length = n) (hl : n ≤ maxLen) (hr : LRow layFce w a l) :
    Calls Tryd.prog 20 #[.slice a n c] w fun e w' => e = .returned (.bool (tabOk l)) ∧ Below w.heap.size w w' := by
  subst hn
  have hl2 := lt_maxLen hl
  have HB := Lib.hid (fun k (h : k < l.length) => tab_bad h)
  have HT : Hid (tabOk (l.take l.length) = true → tabOk l = true) := fun h => by rw [List.take_length] at h; exact h
  have H0 : Hid (tabOk (l.take 0) = true) := rfl
  have HN := Lib.hid (fun k (h : k < l.length) => tab_next h)
  have HL := Lib.hid (fun k (h : k < l.length) => lastKey_take (key := Force.tenant) (a := 0) h)
  have HGE : Hid (∀ k, tabOk (l.take k) = true → 0 ≤ lastKey Force.tenant 0 (l.take k)) := fun k h => lastKey_ge h
  generalize hres : tabOk l = res at HB HT ⊢
  clear hres
  clear HGE
  go_enter Tryd.func20, Tryd.ntmps20
  go_wp2
  go_loopw [3, 8] (fun la i wr => ∃ k : Nat, k ≤ l.length ∧ i = .int .i64 k ∧ la = .int .i64 (lastKey Force.tenant 0 (l.take k)) ∧ Hid (tabOk (l.take k) = true) ∧ Below w.heap.size w wr) (fun _ i _ => l.length - (intOf i).toNat)
  case atStart => exact ⟨0, by omega, rfl, rfl, H0, Below.refl _ _⟩
  case round =>
    obtain ⟨k, hk, rfl, rfl, hok, hb⟩ := hrel
    by_cases hlt : k < l.length
    · obtain ⟨b, o, rfl, hcs⟩ := atFce hr hlt
      have hx := hcs _ hb
      have HB1 := Lib.hid (HB.out k hlt)
      have HN1 := Lib.hid (HN.out k hlt hok.out)
      have HL1 := Lib.hid (HL.out k hlt)
      generalize l[k] = x at hx HB1 HN1 HL1
      generalize lastKey Force.tenant 0 (l.take k) = la at HB1 HN1 ⊢
      clear hcs
      have HM := Lib.hid (fun w => may_any x.rate x.burst w)
      generalize hm : mayB x.rate x.burst = m at HM
      have HMM := Lib.hid hm
      clear hm
      by_cases hgo : x.tick = 0 ∧ la < x.tenant ∧ x.tenant ≤ 16 ∧ m = true
      · obtain ⟨h0, h1, h2, rfl⟩ := hgo
        have HN2 := Lib.hid (HN1.out h0 h1 h2 HMM.out)
        have d0 : (x.tick != 0) = false := by simpa using h0
        clear h0
        go_wp2_with (go_at_call 24; ((with_reducible refine (HM.out _).mono ?_); rintro e w2 ⟨rfl, rfl⟩))
        go_roundw
        case rel => exact ⟨k + 1, by omega, by go_num, by rw [HL1.out], HN2.out, (by repeat' (first | (with_reducible exact Below.refl _ _) | (with_reducible assumption) | (with_reducible refine Below.drew ?_) | (with_reducible refine Below.more ?_ _) | (with_reducible refine Below.put ?_ ?_ _) | (with_reducible refine Below.next ?_ (by with_reducible assumption)) | (with_reducible exact Nat.le_refl _) | (with_reducible refine Below.size' ?_) | omega))⟩
        case measure => simp [intOf]; omega
      · have HG := Lib.hid hgo
        have HO := Lib.hid (HB1.out (fun h => hgo ⟨h.1, h.2.1, h.2.2.1, HMM.out.symm.trans h.2.2.2⟩))
        clear hgo
        by_cases h0 : x.tick = 0
        · have d0 : (x.tick != 0) = false := by simpa using h0
          have HZ := Lib.hid h0
          clear h0
          cases m
          all_goals
            go_wp2_with (go_at_call 24; ((with_reducible refine (HM.out _).mono ?_); rintro e w2 ⟨rfl, rfl⟩))
            all_goals first
              | (go_returns; exact ⟨ret_bool HO.out.symm, (by repeat' (first | (with_reducible exact Below.refl _ _) | (with_reducible assumption) | (with_reducible refine Below.drew ?_) | (with_reducible refine Below.more ?_ _) | (with_reducible refine Below.put ?_ ?_ _) | (with_reducible refine Below.next ?_ (by with_reducible assumption)) | (with_reducible exact Nat.le_refl _) | (with_reducible refine Below.size' ?_) | omega))⟩)
              | (exfalso; have := HG.out; have := HZ.out; simp at *; omega)
        · have d0 : (x.tick != 0) = true := by simpa using h0
          clear h0
          go_wp2_with fail
          go_returns
          exact ⟨ret_bool HO.out.symm, (by repeat' (first | (with_reducible exact Below.refl _ _) | (with_reducible assumption) | (with_reducible refine Below.drew ?_) | (with_reducible refine Below.more ?_ _) | (with_reducible refine Below.put ?_ ?_ _) | (with_reducible refine Below.next ?_ (by with_reducible assumption)) | (with_reducible exact Nat.le_refl _) | (with_reducible refine Below.size' ?_) | omega))⟩
    · obtain rfl : k = l.length := by omega
      have HO := Lib.hid (HT.out hok.out)
      go_wp2
      go_returns
      exact ⟨ret_bool HO.out.symm, hb⟩
set_option maxHeartbeats 4000000 in
theorem reft_any (l : List Force) (a : Option Addr) (n c : Nat) (w : World) (hn : l.length = n) (hl : n ≤ maxLen) (hr : LRow layFce w a l) :
    Calls Tryd.prog 27 #[.slice a n c] w fun e w' => e = .returned (.bool (tabOk l)) ∧ Below w.heap.size w w' := by
  subst hn
  have hl2 := lt_maxLen hl
  have HB := Lib.hid (fun k (h : k < l.length) => tab_bad h)
  have HT : Hid (tabOk (l.take l.length) = true → tabOk l = true) := fun h => by rw [List.take_length] at h; exact h
  have H0 : Hid (tabOk (l.take 0) = true) := rfl
  have HN := Lib.hid (fun k (h : k < l.length) => tab_next h)
  have HL := Lib.hid (fun k (h : k < l.length) => lastKey_take (key := Force.tenant) (a := 0) h)
  have HGE : Hid (∀ k, tabOk (l.take k) = true → 0 ≤ lastKey Force.tenant 0 (l.take k)) := fun k h => lastKey_ge h
  generalize hres : tabOk l = res at HB HT ⊢
  clear hres
  go_enter Tryd.func27, Tryd.ntmps27
  go_wp2
  go_loopw [3] (fun i wr => ∃ k : Nat, k ≤ l.length ∧ i = .int .i64 k ∧ Hid (tabOk (l.take k) = true) ∧ Below w.heap.size w wr) (fun i _ => l.length - (intOf i).toNat)
  case atStart => exact ⟨0, by omega, rfl, H0, Below.refl _ _⟩
  case round =>
    obtain ⟨k, hk, rfl, hok, hb⟩ := hrel
    by_cases hlt : k < l.length
    · obtain ⟨b, o, rfl, hcs⟩ := atFce hr hlt
      obtain ⟨hx0, hx1, hx2, hx3⟩ := hcs _ hb
      have HB1 := Lib.hid (HB.out k hlt)
      have HN1 := Lib.hid (HN.out k hlt hok.out)
      have hge := HGE.out k hok.out
      have HLA : Hid (0 < k → ∃ (h : k - 1 < l.length), lastKey Force.tenant 0 (l.take k) = l[k - 1].tenant) := fun h => ⟨by omega, by have := HL.out (k - 1) (by omega); rw [show k - 1 + 1 = k by omega] at this; exact this⟩
      have HPR : Hid (∀ (h : k - 1 < l.length), wr.cell? ⟨b, o + (k - 1) * 4 + 1, none⟩ = some (.int .i64 l[k - 1].tenant)) := fun h => by
        obtain ⟨b2, o2, e2, hcs2⟩ := atFce hr h
        simp only [Option.some.injEq, Addr.mk.injEq, and_true] at e2
        obtain ⟨rfl, rfl⟩ := e2
        exact (hcs2 _ hb).2.1
      have HK0 : Hid (k = 0 → lastKey Force.tenant 0 (l.take k) = 0) := fun h => by subst h; rfl
      generalize l[k] = x at hx0 hx1 hx2 hx3 HB1 HN1
      clear hcs
      have HM : Hid (mayB x.rate x.burst = mayB x.rate x.burst) := rfl
      go_wp2
      refine wp_region_quiet_lit (by kernel_rfl) (by kernel_rfl) ?_
      by_cases h0 : (x.tick != 0) = true
      · have HO := Lib.hid (HB1.out (fun h => by rw [h.1] at h0; exact absurd h0 (by decide)))
        clear hge
        repeat (go_big_quiet_step (first | (go_at_call 30; exact Calls.quiet_of_same (refmay_q _ _ _ _ HM.out))))
        refine wpQuiet_nil ?_
        intro _ hw'
        obtain ⟨nq, hw2⟩ := hw'
        subst hw2
        go_wp2
        go_returns
        exact ⟨ret_bool HO.out.symm, below_drewN hb _⟩
      have e0 : (x.tick != 0) = false := by simpa using h0
      have HZ : Hid (x.tick = 0) := by show _ = _; simpa using h0
      clear h0
      by_cases h1 : x.tenant < 1
      · have HO := Lib.hid (HB1.out (by omega))
        have e1 : decide (x.tenant < 1) = true := decide_eq_true h1
        clear hge
        repeat (go_big_quiet_step (first | (go_at_call 30; exact Calls.quiet_of_same (refmay_q _ _ _ _ HM.out))))
        refine wpQuiet_nil ?_
        intro _ hw'
        obtain ⟨nq, hw2⟩ := hw'
        subst hw2
        go_wp2
        go_returns
        exact ⟨ret_bool HO.out.symm, below_drewN hb _⟩
      have e1 : decide (x.tenant < 1) = false := decide_eq_false h1
      by_cases h2 : 16 < x.tenant
      · have HO := Lib.hid (HB1.out (by omega))
        have e2 : decide (16 < x.tenant) = true := decide_eq_true h2
        clear hge
        repeat (go_big_quiet_step (first | (go_at_call 30; exact Calls.quiet_of_same (refmay_q _ _ _ _ HM.out))))
        refine wpQuiet_nil ?_
        intro _ hw'
        obtain ⟨nq, hw2⟩ := hw'
        subst hw2
        go_wp2
        go_returns
        exact ⟨ret_bool HO.out.symm, below_drewN hb _⟩
      have e2 : decide (16 < x.tenant) = false := decide_eq_false h2
      cases hm : mayB x.rate x.burst with
      | false =>
        have HO := Lib.hid (HB1.out (fun h => by rw [hm] at h; exact absurd h.2.2.2 (by decide)))
        replace HM := Lib.hid hm
        clear hge hm
        repeat (go_big_quiet_step (first | (go_at_call 30; exact Calls.quiet_of_same (refmay_q _ _ _ _ HM.out))))
        refine wpQuiet_nil ?_
        intro _ hw'
        obtain ⟨nq, hw2⟩ := hw'
        subst hw2
        go_wp2
        go_returns
        exact ⟨ret_bool HO.out.symm, below_drewN hb _⟩
      | true =>
        replace HM := Lib.hid hm
        clear hm
        by_cases hk0 : k = 0
        · have HN2 := Lib.hid (HN1.out HZ.out (by rw [HK0.out hk0]; omega) (by omega) HM.out)
          have kz : decide ((0 : Int) < (k : Int)) = false := by simp; omega
          have kz2 : decide (0 < k) = false := by simp; omega
          clear hge hk0
          repeat (go_big_quiet_step (first | (go_at_call 30; exact Calls.quiet_of_same (refmay_q _ _ _ _ HM.out))))
          refine wpQuiet_nil ?_
          intro _ hw'
          obtain ⟨nq, hw2⟩ := hw'
          subst hw2
          go_wp2
          go_roundw
          case rel => exact ⟨k + 1, by omega, by go_num, HN2.out, below_drewN hb _⟩
          case measure => simp [intOf]; omega
        obtain ⟨hj, HLA2⟩ := HLA.out (by omega)
        have hp := HPR.out hj
        rw [HLA2] at HB1 HN1
        generalize l[k - 1].tenant = pv at hp HB1 HN1
        clear HLA2 hge hj
        have kz : decide ((0 : Int) < (k : Int)) = true := by simp; omega
        have kz2 : decide (0 < k) = true := by simp; omega
        have ew : IntKind.i64.wrap ((k : Int) - 1) = ((k - 1 : Nat) : Int) := by rw [IntWalk.i64_in _ (by omega)]; omega
        by_cases h4 : x.tenant ≤ pv
        · have HO := Lib.hid (HB1.out (by omega))
          have e4 : decide (x.tenant ≤ pv) = true := decide_eq_true h4
          repeat (go_big_quiet_step (first | (go_at_call 30; exact Calls.quiet_of_same (refmay_q _ _ _ _ HM.out))))
          refine wpQuiet_nil ?_
          intro _ hw'
          obtain ⟨nq, hw2⟩ := hw'
          subst hw2
          go_wp2
          go_returns
          exact ⟨ret_bool HO.out.symm, below_drewN hb _⟩
        have e4 : decide (x.tenant ≤ pv) = false := decide_eq_false h4
        have HN2 := Lib.hid (HN1.out HZ.out (by omega) (by omega) HM.out)
        repeat (go_big_quiet_step (first | (go_at_call 30; exact Calls.quiet_of_same (refmay_q _ _ _ _ HM.out))))
        refine wpQuiet_nil ?_
        intro _ hw'
        obtain ⟨nq, hw2⟩ := hw'
        subst hw2
        go_wp2
        go_roundw
        case rel => exact ⟨k + 1, by omega, by go_num, HN2.out, below_drewN hb _⟩
        case measure => simp [intOf]; omega
    · obtain rfl : k = l.length := by omega
      have HO := Lib.hid (HT.out hok.out)
      go_wp2
      go_returns
      exact ⟨ret_bool HO.out.symm, hb⟩
end Go.Proofs.YtkboojpkkhiceaaDoor
