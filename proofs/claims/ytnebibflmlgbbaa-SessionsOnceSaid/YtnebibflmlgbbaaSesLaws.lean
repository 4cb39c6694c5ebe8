import Derived.Test.YtnebibflmlgbbaaSesWakes
namespace Go.Proofs.Ytnebibflmlgbbaa
open Go.ChangeShapes Go.WideShapes Go.ChangeAt Go.RowKit

theorem keepS_length (l : List Session) (c n : Int) (x : Ans) : (keepS l c n x).1.length ≤ l.length + 1 := by
  have := insK_length (key := Session.client) ⟨c, n, x⟩ l
  unfold keepS
  split
  · simp
  · split
    · simp
    · exact this
theorem keepS_facts {l : List Session} {c n : Int} {x : Ans} (h : (keepS l c n x).2 = 0) :
    sessOk l = true ∧ sessOk (keepS l c n x).1 = true ∧ askS (keepS l c n x).1 c n = (x, false, 0) ∧
    ∀ other, other ≠ c → (∀ next, askS l other next = askS (keepS l c n x).1 other next) ∧ lastS l other = lastS (keepS l c n x).1 other := by
  unfold keepS at h ⊢
  cases hm : mayS l c n with
  | false => rw [hm, if_pos rfl] at h; cases h
  | true =>
    rw [hm, if_neg (by simp)] at h
    rw [if_neg (by simp)]
    by_cases hl : n ≤ lastS l c
    · rw [if_pos hl] at h; cases h
    · rw [if_neg hl]
      obtain ⟨h1, h2, h3, h4⟩ := mayS_ok hm
      have hg : sesGood (⟨c, n, x⟩ : Session) = true := by simp [sesGood, h3, h4]
      have h5 : sessOk (insK Session.client ⟨c, n, x⟩ l) = true := chainOk_insK h1 (show (0 : Int) < c by omega) hg
      have hpw := (chainOk_iff.1 h1).2
      have hf : findS (insK Session.client ⟨c, n, x⟩ l) c = (⟨c, n, x⟩, true) := by
        have := find_insK_self (key := Session.client) (x := (⟨c, n, x⟩ : Session)) l hpw
        unfold findS; rw [this]
      refine ⟨h1, h5, ?_, fun other ho => ?_⟩
      · unfold askS
        have h6 : mayS (insK Session.client ⟨c, n, x⟩ l) c n = true := by simp [mayS, h5, h2, h3, h4]
        rw [h6, hf]; simp
      · have hfo : findS (insK Session.client ⟨c, n, x⟩ l) other = findS l other := by
          unfold findS; rw [find_insK_other (key := Session.client) (x := (⟨c, n, x⟩ : Session)) (fun h => ho h.symm)]
        refine ⟨fun next => ?_, ?_⟩
        · unfold askS mayS; rw [hfo, h5, h1]
        · unfold lastS; rw [hfo, h5, h1]

set_option maxHeartbeats 4000000 in
theorem law_tell (a : Option Addr) (l : List Session) (n c : Nat) (id num : Int) (w : World) (hn : l.length = n) (hid : (Lit.int .i64 id).wf = true) (hr : LRow laySes w a l) :
    Calls Try.prog 3 #[.slice a n c, .int .i64 id, .int .i64 num] w fun e w' => e = .returned (.bool true) ∧ Below w.heap.size w w' := by
  subst hn
  by_cases hg : 60 < l.length
  · go_enter Try.func3, Try.ntmps3
    go_wp2_with (go_at_call 7; ((with_reducible refine (wakes_ses _).mono ?_); rintro e w2 ⟨rfl, hb2⟩))
    go_returns
    exact ⟨rfl, (by repeat' (first | (with_reducible exact Below.refl _ _) | (with_reducible assumption) | (with_reducible refine Below.drew ?_) | (with_reducible refine Below.more ?_ _) | (with_reducible refine Below.put ?_ ?_ _) | (with_reducible refine Below.next ?_ (by with_reducible assumption)) | (with_reducible exact Nat.le_refl _) | (with_reducible refine Below.size' ?_) | omega))⟩
  · have hm := le_maxLen (show l.length ≤ 1048576 by omega)
    have HID := Lib.hid hid
    rcases ha : askS l id num with ⟨⟨ae, ar, ab, al, az⟩, fr, er⟩
    have HA := Lib.hid ha
    have HE := aeql_same ae ar ab al az
    clear ha hid
    go_enter Try.func3, Try.ntmps3
    go_wp2_with (first
      | (go_at_call 8; ((with_reducible refine (ask_ses l _ _ _ _ _ _ rfl (by omega) (LRow.below hr (by repeat' (first | (with_reducible exact Below.refl _ _) | (with_reducible assumption) | (with_reducible refine Below.drew ?_) | (with_reducible refine Below.more ?_ _) | (with_reducible refine Below.put ?_ ?_ _) | (with_reducible refine Below.next ?_ (by with_reducible assumption)) | (with_reducible exact Nat.le_refl _) | (with_reducible refine Below.size' ?_) | omega)))).mono ?_); rw [HA.out]; rintro e w2 ⟨rfl, hb2⟩))
      | (go_at_call 9; ((with_reducible refine (refask_ses l _ _ _ _ _ _ rfl (by omega) (LRow.below hr (by repeat' (first | (with_reducible exact Below.refl _ _) | (with_reducible assumption) | (with_reducible refine Below.drew ?_) | (with_reducible refine Below.more ?_ _) | (with_reducible refine Below.put ?_ ?_ _) | (with_reducible refine Below.next ?_ (by with_reducible assumption)) | (with_reducible exact Nat.le_refl _) | (with_reducible refine Below.size' ?_) | omega)))).mono ?_); rw [HA.out]; rintro e w3 ⟨rfl, hb3⟩; have qx3 : Below (World.alloc w2 (.cells #[.int .i64 ae, .int .i64 ar, .int .i64 ab, .int .i64 al, .int .i64 az] 26)).heap.size (World.alloc w2 (.cells #[.int .i64 ae, .int .i64 ar, .int .i64 ab, .int .i64 al, .int .i64 az] 26)) w3 := (by repeat' (first | (with_reducible exact Below.refl _ _) | (with_reducible assumption) | (with_reducible refine Below.drew ?_) | (with_reducible refine Below.more ?_ _) | (with_reducible refine Below.put ?_ ?_ _) | (with_reducible refine Below.next ?_ (by with_reducible assumption)) | (with_reducible exact Nat.le_refl _) | (with_reducible refine Below.size' ?_) | omega)); have hx3 := own_cells qx3; have zx3 := own_frozen qx3; have sx3 := Below.boxed qx3; clear qx3))
      | (go_at_call 10; ((with_reducible refine (check_ses l _ _ _ _ rfl hm (LRow.below hr (by repeat' (first | (with_reducible exact Below.refl _ _) | (with_reducible assumption) | (with_reducible refine Below.drew ?_) | (with_reducible refine Below.more ?_ _) | (with_reducible refine Below.put ?_ ?_ _) | (with_reducible refine Below.next ?_ (by with_reducible assumption)) | (with_reducible exact Nat.le_refl _) | (with_reducible refine Below.size' ?_) | omega)))).mono ?_); rintro e w4 ⟨rfl, hb4⟩))
      | (go_at_call 11; ((with_reducible refine (refcheck_ses l _ _ _ _ rfl hm (LRow.below hr (by repeat' (first | (with_reducible exact Below.refl _ _) | (with_reducible assumption) | (with_reducible refine Below.drew ?_) | (with_reducible refine Below.more ?_ _) | (with_reducible refine Below.put ?_ ?_ _) | (with_reducible refine Below.next ?_ (by with_reducible assumption)) | (with_reducible exact Nat.le_refl _) | (with_reducible refine Below.size' ?_) | omega)))).mono ?_); rintro e w5 ⟨rfl, hb5⟩))
      | (go_at_call 12; ((with_reducible refine (last_ses l _ _ _ _ _ rfl (by omega) (LRow.below hr (by repeat' (first | (with_reducible exact Below.refl _ _) | (with_reducible assumption) | (with_reducible refine Below.drew ?_) | (with_reducible refine Below.more ?_ _) | (with_reducible refine Below.put ?_ ?_ _) | (with_reducible refine Below.next ?_ (by with_reducible assumption)) | (with_reducible exact Nat.le_refl _) | (with_reducible refine Below.size' ?_) | omega))) HID.out).mono ?_); rintro e w6 ⟨rfl, hb6⟩))
      | (go_at_call 13; ((with_reducible refine (reflast_ses l _ _ _ _ _ rfl (by omega) (LRow.below hr (by repeat' (first | (with_reducible exact Below.refl _ _) | (with_reducible assumption) | (with_reducible refine Below.drew ?_) | (with_reducible refine Below.more ?_ _) | (with_reducible refine Below.put ?_ ?_ _) | (with_reducible refine Below.next ?_ (by with_reducible assumption)) | (with_reducible exact Nat.le_refl _) | (with_reducible refine Below.size' ?_) | omega)))).mono ?_); rintro e w7 ⟨rfl, hb7⟩))
      | (go_at_call 7; ((with_reducible refine (wakes_ses _).mono ?_); rintro e w8 ⟨rfl, hb8⟩)))
    go_returns
    exact ⟨rfl, (by repeat' (first | (with_reducible exact Below.refl _ _) | (with_reducible assumption) | (with_reducible refine Below.drew ?_) | (with_reducible refine Below.more ?_ _) | (with_reducible refine Below.put ?_ ?_ _) | (with_reducible refine Below.next ?_ (by with_reducible assumption)) | (with_reducible exact Nat.le_refl _) | (with_reducible refine Below.size' ?_) | omega))⟩

set_option maxHeartbeats 4000000 in
theorem law_keep (a : Option Addr) (l : List Session) (n c : Nat) (id num : Int) (x : Ans) (w : World) (hn : l.length = n) (hc : a = none → c = 0) (hnc : n ≤ c) (hr : LRow laySes w a l) :
    Calls Try.prog 4 #[.slice a n c, .int .i64 id, .int .i64 num, x.agg] w fun e w' => e = .returned (.bool true) ∧ Below w.heap.size w w' := by
  subst hn
  obtain ⟨xe, xr, xb, xl, xz⟩ := x
  by_cases hg : 60 < l.length
  · go_enter Try.func4, Try.ntmps4
    go_wp2_with (go_at_call 7; ((with_reducible refine (wakes_ses _).mono ?_); rintro e w2 ⟨rfl, hb2⟩))
    go_returns
    exact ⟨rfl, (by repeat' (first | (with_reducible exact Below.refl _ _) | (with_reducible assumption) | (with_reducible refine Below.drew ?_) | (with_reducible refine Below.more ?_ _) | (with_reducible refine Below.put ?_ ?_ _) | (with_reducible refine Below.next ?_ (by with_reducible assumption)) | (with_reducible exact Nat.le_refl _) | (with_reducible refine Below.size' ?_) | omega))⟩
  · have hlr := keepS_length l id num ⟨xe, xr, xb, xl, xz⟩
    rcases hk : keepS l id num ⟨xe, xr, xb, xl, xz⟩ with ⟨r, er⟩
    rw [hk] at hlr
    replace hlr : r.length ≤ l.length + 1 := hlr
    have hrm := le_maxLen (show r.length ≤ 1048576 by omega)
    have HK := Lib.hid hk
    clear hk
    go_enter Try.func4, Try.ntmps4
    go_wp2_with (first
      | (go_at_call 14; ((with_reducible refine (keep_ses l _ _ _ _ _ ⟨xe, xr, xb, xl, xz⟩ _ rfl (by omega) hc hnc (LRow.below hr (by repeat' (first | (with_reducible exact Below.refl _ _) | (with_reducible assumption) | (with_reducible refine Below.drew ?_) | (with_reducible refine Below.more ?_ _) | (with_reducible refine Below.put ?_ ?_ _) | (with_reducible refine Below.next ?_ (by with_reducible assumption)) | (with_reducible exact Nat.le_refl _) | (with_reducible refine Below.size' ?_) | omega)))).mono ?_); rw [HK.out]; rintro e w2 ⟨a2, c2, rfl, hc2, _, hn2, hr2, hb2⟩; replace hr2 : LRow laySes w2 a2 r := hr2; have qx2 : Below (World.alloc w (.cells #[.int .i64 xe, .int .i64 xr, .int .i64 xb, .int .i64 xl, .int .i64 xz] 26)).heap.size (World.alloc w (.cells #[.int .i64 xe, .int .i64 xr, .int .i64 xb, .int .i64 xl, .int .i64 xz] 26)) w2 := (by repeat' (first | (with_reducible exact Below.refl _ _) | (with_reducible assumption) | (with_reducible refine Below.drew ?_) | (with_reducible refine Below.more ?_ _) | (with_reducible refine Below.put ?_ ?_ _) | (with_reducible refine Below.next ?_ (by with_reducible assumption)) | (with_reducible exact Nat.le_refl _) | (with_reducible refine Below.size' ?_) | omega)); have hx2 := own_cells qx2; have zx2 := own_frozen qx2; have sx2 := Below.boxed qx2; clear qx2))
      | (go_at_call 15; ((with_reducible refine (refkeep_ses l _ _ _ _ _ ⟨xe, xr, xb, xl, xz⟩ _ rfl (by omega) (LRow.below hr (by repeat' (first | (with_reducible exact Below.refl _ _) | (with_reducible assumption) | (with_reducible refine Below.drew ?_) | (with_reducible refine Below.more ?_ _) | (with_reducible refine Below.put ?_ ?_ _) | (with_reducible refine Below.next ?_ (by with_reducible assumption)) | (with_reducible exact Nat.le_refl _) | (with_reducible refine Below.size' ?_) | omega)))).mono ?_); rw [HK.out]; rintro e w3 ⟨a3, c3, rfl, hc3, _, hn3, hr3, hb3⟩; replace hr3 : LRow laySes w3 a3 r := hr3))
      | (go_at_call 16; ((with_reducible refine (same_ses r r _ _ _ _ _ _ _ rfl rfl hrm hrm (LRow.below hr2 (by repeat' (first | (with_reducible exact Below.refl _ _) | (with_reducible assumption) | (with_reducible refine Below.drew ?_) | (with_reducible refine Below.more ?_ _) | (with_reducible refine Below.put ?_ ?_ _) | (with_reducible refine Below.next ?_ (by with_reducible assumption)) | (with_reducible exact Nat.le_refl _) | (with_reducible refine Below.size' ?_) | omega))) (LRow.below hr3 (by repeat' (first | (with_reducible exact Below.refl _ _) | (with_reducible assumption) | (with_reducible refine Below.drew ?_) | (with_reducible refine Below.more ?_ _) | (with_reducible refine Below.put ?_ ?_ _) | (with_reducible refine Below.next ?_ (by with_reducible assumption)) | (with_reducible exact Nat.le_refl _) | (with_reducible refine Below.size' ?_) | omega)))).mono ?_); rw [decide_eq_true (rfl : r = r)]; rintro e w4 ⟨rfl, hb4⟩))
      | (go_at_call 7; ((with_reducible refine (wakes_ses _).mono ?_); rintro e w5 ⟨rfl, hb5⟩)))
    go_returns
    exact ⟨rfl, (by repeat' (first | (with_reducible exact Below.refl _ _) | (with_reducible assumption) | (with_reducible refine Below.drew ?_) | (with_reducible refine Below.more ?_ _) | (with_reducible refine Below.put ?_ ?_ _) | (with_reducible refine Below.next ?_ (by with_reducible assumption)) | (with_reducible exact Nat.le_refl _) | (with_reducible refine Below.size' ?_) | omega))⟩
end Go.Proofs.Ytnebibflmlgbbaa
