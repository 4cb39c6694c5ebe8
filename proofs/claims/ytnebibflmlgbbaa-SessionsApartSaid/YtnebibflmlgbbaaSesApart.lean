import Derived.Test.YtnebibflmlgbbaaSesLaws
namespace Go.Proofs.Ytnebibflmlgbbaa
open Go.ChangeShapes Go.WideShapes Go.ChangeAt Go.RowKit

set_option maxHeartbeats 4000000 in
theorem law_apart (a : Option Addr) (l : List Session) (n c : Nat) (id num : Int) (x : Ans) (other next : Int) (w : World) (hn : l.length = n) (hoth : (Lit.int .i64 other).wf = true) (hc : a = none → c = 0) (hnc : n ≤ c) (hr : LRow laySes w a l) :
    Calls Try.prog 6 #[.slice a n c, .int .i64 id, .int .i64 num, x.agg, .int .i64 other, .int .i64 next] w fun e w' => e = .returned (.bool true) ∧ Below w.heap.size w w' := by
  subst hn
  obtain ⟨xe, xr, xb, xl, xz⟩ := x
  by_cases hg : 60 < l.length
  · go_enter Try.func6, Try.ntmps6
    go_wp2_with (go_at_call 7; ((with_reducible refine (wakes_ses _).mono ?_); rintro e w2 ⟨rfl, hb2⟩))
    go_returns
    exact ⟨rfl, (by repeat' (first | (with_reducible exact Below.refl _ _) | (with_reducible assumption) | (with_reducible refine Below.drew ?_) | (with_reducible refine Below.more ?_ _) | (with_reducible refine Below.put ?_ ?_ _) | (with_reducible refine Below.next ?_ (by with_reducible assumption)) | (with_reducible exact Nat.le_refl _) | (with_reducible refine Below.size' ?_) | omega))⟩
  cases hoc : (other == id) with
  | true =>
    go_enter Try.func6, Try.ntmps6
    go_wp2_with (go_at_call 7; ((with_reducible refine (wakes_ses _).mono ?_); rintro e w2 ⟨rfl, hb2⟩))
    go_returns
    exact ⟨rfl, (by repeat' (first | (with_reducible exact Below.refl _ _) | (with_reducible assumption) | (with_reducible refine Below.drew ?_) | (with_reducible refine Below.more ?_ _) | (with_reducible refine Below.put ?_ ?_ _) | (with_reducible refine Below.next ?_ (by with_reducible assumption)) | (with_reducible exact Nat.le_refl _) | (with_reducible refine Below.size' ?_) | omega))⟩
  | false =>
    have hne : other ≠ id := by simpa using hoc
    have hlr := keepS_length l id num ⟨xe, xr, xb, xl, xz⟩
    have hfact := keepS_facts (l := l) (c := id) (n := num) (x := ⟨xe, xr, xb, xl, xz⟩)
    rcases hk : keepS l id num ⟨xe, xr, xb, xl, xz⟩ with ⟨r, er⟩
    rw [hk] at hlr hfact
    replace hlr : r.length ≤ l.length + 1 := hlr
    have HK := Lib.hid hk
    clear hk
    cases her : (er != 0) with
    | true =>
      have HF := Lib.hid hfact
      clear hfact hne
      go_enter Try.func6, Try.ntmps6
      go_wp2_with (first
        | (go_at_call 14; ((with_reducible refine (keep_ses l _ _ _ _ _ ⟨xe, xr, xb, xl, xz⟩ _ rfl (by omega) hc hnc (LRow.below hr (by repeat' (first | (with_reducible exact Below.refl _ _) | (with_reducible assumption) | (with_reducible refine Below.drew ?_) | (with_reducible refine Below.more ?_ _) | (with_reducible refine Below.put ?_ ?_ _) | (with_reducible refine Below.next ?_ (by with_reducible assumption)) | (with_reducible exact Nat.le_refl _) | (with_reducible refine Below.size' ?_) | omega)))).mono ?_); rw [HK.out]; rintro e w2 ⟨a2, c2, rfl, hc2, _, hn2, hr2, hb2⟩; have qx2 : Below (World.alloc w (.cells #[.int .i64 xe, .int .i64 xr, .int .i64 xb, .int .i64 xl, .int .i64 xz] 26)).heap.size (World.alloc w (.cells #[.int .i64 xe, .int .i64 xr, .int .i64 xb, .int .i64 xl, .int .i64 xz] 26)) w2 := (by repeat' (first | (with_reducible exact Below.refl _ _) | (with_reducible assumption) | (with_reducible refine Below.drew ?_) | (with_reducible refine Below.more ?_ _) | (with_reducible refine Below.put ?_ ?_ _) | (with_reducible refine Below.next ?_ (by with_reducible assumption)) | (with_reducible exact Nat.le_refl _) | (with_reducible refine Below.size' ?_) | omega)); have hx2 := own_cells qx2; have zx2 := own_frozen qx2; have sx2 := Below.boxed qx2; clear qx2))
        | (go_at_call 7; ((with_reducible refine (wakes_ses _).mono ?_); rintro e w5 ⟨rfl, hb5⟩)))
      go_returns
      exact ⟨rfl, (by repeat' (first | (with_reducible exact Below.refl _ _) | (with_reducible assumption) | (with_reducible refine Below.drew ?_) | (with_reducible refine Below.more ?_ _) | (with_reducible refine Below.put ?_ ?_ _) | (with_reducible refine Below.next ?_ (by with_reducible assumption)) | (with_reducible exact Nat.le_refl _) | (with_reducible refine Below.size' ?_) | omega))⟩
    | false =>
      obtain rfl : er = 0 := by simpa using her
      obtain ⟨_, _, f3, f4⟩ := hfact rfl
      obtain ⟨f5, f6⟩ := f4 other hne
      simp only at f3 f5 f6
      have HF3 := Lib.hid f3
      rcases ho : askS l other next with ⟨⟨ae, ar, ab, al, az⟩, fr, fe⟩
      have HO := Lib.hid ho
      have HO2 : Hid (askS r other next = (⟨ae, ar, ab, al, az⟩, fr, fe)) := by show _ = _; rw [← f5 next]; exact ho
      have HL := Lib.hid f6.symm
      have HOT := Lib.hid hoth
      have HE := aeql_same ae ar ab al az
      have HE2 := aeql_same xe xr xb xl xz
      clear hfact f3 f4 f5 f6 ho hne her hoth
      go_enter Try.func6, Try.ntmps6
      go_wp2_with (first
        | (go_at_call 14; ((with_reducible refine (keep_ses l _ _ _ _ _ ⟨xe, xr, xb, xl, xz⟩ _ rfl (by omega) hc hnc (LRow.below hr (by repeat' (first | (with_reducible exact Below.refl _ _) | (with_reducible assumption) | (with_reducible refine Below.drew ?_) | (with_reducible refine Below.more ?_ _) | (with_reducible refine Below.put ?_ ?_ _) | (with_reducible refine Below.next ?_ (by with_reducible assumption)) | (with_reducible exact Nat.le_refl _) | (with_reducible refine Below.size' ?_) | omega)))).mono ?_); rw [HK.out]; rintro e w2 ⟨a2, c2, rfl, hc2, _, hn2, hr2, hb2⟩; replace hr2 : LRow laySes w2 a2 r := hr2; have qx2 : Below (World.alloc w (.cells #[.int .i64 xe, .int .i64 xr, .int .i64 xb, .int .i64 xl, .int .i64 xz] 26)).heap.size (World.alloc w (.cells #[.int .i64 xe, .int .i64 xr, .int .i64 xb, .int .i64 xl, .int .i64 xz] 26)) w2 := (by repeat' (first | (with_reducible exact Below.refl _ _) | (with_reducible assumption) | (with_reducible refine Below.drew ?_) | (with_reducible refine Below.more ?_ _) | (with_reducible refine Below.put ?_ ?_ _) | (with_reducible refine Below.next ?_ (by with_reducible assumption)) | (with_reducible exact Nat.le_refl _) | (with_reducible refine Below.size' ?_) | omega)); have hx2 := own_cells qx2; have zx2 := own_frozen qx2; have sx2 := Below.boxed qx2; clear qx2))
        | (go_at_call 8; ((with_reducible refine (ask_ses l a _ _ other _ _ rfl (by omega) (LRow.below hr (by repeat' (first | (with_reducible exact Below.refl _ _) | (with_reducible assumption) | (with_reducible refine Below.drew ?_) | (with_reducible refine Below.more ?_ _) | (with_reducible refine Below.put ?_ ?_ _) | (with_reducible refine Below.next ?_ (by with_reducible assumption)) | (with_reducible exact Nat.le_refl _) | (with_reducible refine Below.size' ?_) | omega)))).mono ?_); rw [HO.out]; rintro e w3 ⟨rfl, hb3⟩))
        | (go_at_call 8; ((with_reducible refine (ask_ses r a2 _ _ other _ _ rfl (by omega) (LRow.below hr2 (by repeat' (first | (with_reducible exact Below.refl _ _) | (with_reducible assumption) | (with_reducible refine Below.drew ?_) | (with_reducible refine Below.more ?_ _) | (with_reducible refine Below.put ?_ ?_ _) | (with_reducible refine Below.next ?_ (by with_reducible assumption)) | (with_reducible exact Nat.le_refl _) | (with_reducible refine Below.size' ?_) | omega)))).mono ?_); rw [HO2.out]; rintro e w4 ⟨rfl, hb4⟩))
        | (go_at_call 8; ((with_reducible refine (ask_ses r a2 _ _ id _ _ rfl (by omega) (LRow.below hr2 (by repeat' (first | (with_reducible exact Below.refl _ _) | (with_reducible assumption) | (with_reducible refine Below.drew ?_) | (with_reducible refine Below.more ?_ _) | (with_reducible refine Below.put ?_ ?_ _) | (with_reducible refine Below.next ?_ (by with_reducible assumption)) | (with_reducible exact Nat.le_refl _) | (with_reducible refine Below.size' ?_) | omega)))).mono ?_); rw [HF3.out]; rintro e w5 ⟨rfl, hb5⟩; have qx5 : Below (World.alloc w3 (.cells #[.int .i64 ae, .int .i64 ar, .int .i64 ab, .int .i64 al, .int .i64 az] 26)).heap.size (World.alloc w3 (.cells #[.int .i64 ae, .int .i64 ar, .int .i64 ab, .int .i64 al, .int .i64 az] 26)) w5 := (by repeat' (first | (with_reducible exact Below.refl _ _) | (with_reducible assumption) | (with_reducible refine Below.drew ?_) | (with_reducible refine Below.more ?_ _) | (with_reducible refine Below.put ?_ ?_ _) | (with_reducible refine Below.next ?_ (by with_reducible assumption)) | (with_reducible exact Nat.le_refl _) | (with_reducible refine Below.size' ?_) | omega)); have hx5 := own_cells qx5; have zx5 := own_frozen qx5; have sx5 := Below.boxed qx5; clear qx5; have qy5 : Below (World.alloc w4 (.cells #[.int .i64 ae, .int .i64 ar, .int .i64 ab, .int .i64 al, .int .i64 az] 26)).heap.size (World.alloc w4 (.cells #[.int .i64 ae, .int .i64 ar, .int .i64 ab, .int .i64 al, .int .i64 az] 26)) w5 := (by repeat' (first | (with_reducible exact Below.refl _ _) | (with_reducible assumption) | (with_reducible refine Below.drew ?_) | (with_reducible refine Below.more ?_ _) | (with_reducible refine Below.put ?_ ?_ _) | (with_reducible refine Below.next ?_ (by with_reducible assumption)) | (with_reducible exact Nat.le_refl _) | (with_reducible refine Below.size' ?_) | omega)); have hy5 := own_cells qy5; have zy5 := own_frozen qy5; have sy5 := Below.boxed qy5; clear qy5))
        | (go_at_call 12; ((with_reducible refine (last_ses l a _ _ _ _ rfl (by omega) (LRow.below hr (by repeat' (first | (with_reducible exact Below.refl _ _) | (with_reducible assumption) | (with_reducible refine Below.drew ?_) | (with_reducible refine Below.more ?_ _) | (with_reducible refine Below.put ?_ ?_ _) | (with_reducible refine Below.next ?_ (by with_reducible assumption)) | (with_reducible exact Nat.le_refl _) | (with_reducible refine Below.size' ?_) | omega))) HOT.out).mono ?_); rintro e w6 ⟨rfl, hb6⟩))
        | (go_at_call 12; ((with_reducible refine (last_ses r a2 _ _ _ _ rfl (by omega) (LRow.below hr2 (by repeat' (first | (with_reducible exact Below.refl _ _) | (with_reducible assumption) | (with_reducible refine Below.drew ?_) | (with_reducible refine Below.more ?_ _) | (with_reducible refine Below.put ?_ ?_ _) | (with_reducible refine Below.next ?_ (by with_reducible assumption)) | (with_reducible exact Nat.le_refl _) | (with_reducible refine Below.size' ?_) | omega))) HOT.out).mono ?_); rw [HL.out]; rintro e w7 ⟨rfl, hb7⟩; have qx7 : Below (World.alloc w (.cells #[.int .i64 xe, .int .i64 xr, .int .i64 xb, .int .i64 xl, .int .i64 xz] 26)).heap.size (World.alloc w (.cells #[.int .i64 xe, .int .i64 xr, .int .i64 xb, .int .i64 xl, .int .i64 xz] 26)) w7 := (by repeat' (first | (with_reducible exact Below.refl _ _) | (with_reducible assumption) | (with_reducible refine Below.drew ?_) | (with_reducible refine Below.more ?_ _) | (with_reducible refine Below.put ?_ ?_ _) | (with_reducible refine Below.next ?_ (by with_reducible assumption)) | (with_reducible exact Nat.le_refl _) | (with_reducible refine Below.size' ?_) | omega)); have hx7 := own_cells qx7; have zx7 := own_frozen qx7; have sx7 := Below.boxed qx7; clear qx7; have qy7 : Below (World.alloc w5 (.cells #[.int .i64 xe, .int .i64 xr, .int .i64 xb, .int .i64 xl, .int .i64 xz] 26)).heap.size (World.alloc w5 (.cells #[.int .i64 xe, .int .i64 xr, .int .i64 xb, .int .i64 xl, .int .i64 xz] 26)) w7 := (by repeat' (first | (with_reducible exact Below.refl _ _) | (with_reducible assumption) | (with_reducible refine Below.drew ?_) | (with_reducible refine Below.more ?_ _) | (with_reducible refine Below.put ?_ ?_ _) | (with_reducible refine Below.next ?_ (by with_reducible assumption)) | (with_reducible exact Nat.le_refl _) | (with_reducible refine Below.size' ?_) | omega)); have hy7 := own_cells qy7; have zy7 := own_frozen qy7; have sy7 := Below.boxed qy7; clear qy7))
        | (go_at_call 7; ((with_reducible refine (wakes_ses _).mono ?_); rintro e w8 ⟨rfl, hb8⟩)))
      go_returns
      exact ⟨rfl, (by repeat' (first | (with_reducible exact Below.refl _ _) | (with_reducible assumption) | (with_reducible refine Below.drew ?_) | (with_reducible refine Below.more ?_ _) | (with_reducible refine Below.put ?_ ?_ _) | (with_reducible refine Below.next ?_ (by with_reducible assumption)) | (with_reducible exact Nat.le_refl _) | (with_reducible refine Below.size' ?_) | omega))⟩
end Go.Proofs.Ytnebibflmlgbbaa
