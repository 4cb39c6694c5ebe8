import Derived.Test.YtnpbajmpenpnbaaNever
namespace Go.Proofs.Ytnpbajmpenpnbaa
open Go.ChangeShapes Go.WideShapes Go.ChangeAt Go.RowKit

def setS (ts : List Tenant) (x : Tenant) : List Tenant × Int := if tensOk 0 ts = true ∧ tensOk 0 (withL x ts) = true then (withL x ts, 0) else (ts, 2)
def RetTE (w : World) (src : Option Addr) (r : List Tenant × Int) (e : Ending) (w' : World) : Prop :=
  ∃ a c, e = .returned (.tuple #[.slice a r.1.length c, .int .i64 r.2]) ∧ r.1.length ≤ c ∧ (a = none → c = 0) ∧ Near w.heap.size src a ∧ TRow w' a r.1 ∧ Below w.heap.size w w'
theorem row_tenant {w : World} (x : Tenant) : (w.alloc (.cells #[.int .i64 x.id, .int .i64 x.rate, .int .i64 x.burst, .int .i64 x.bucket, .bool x.gone] 38)).cell? ⟨w.heap.size, 0, none⟩ = some (.int .i64 x.id) := World.cell?_alloc_at _ _ _ 0 rfl

set_option maxHeartbeats 1000000 in
theorem set_any (ts : List Tenant) (a : Option Addr) (n c : Nat) (x : Tenant) (w : World) (hn : ts.length = n) (hl : ts.length ≤ 900) (hc : a = none → c = 0) (hnc : n ≤ c) (hr : TRow w a ts) :
    Calls Try.prog 21 #[.slice a n c, x.agg] w (RetTE w a (setS ts x)) := by
  subst hn
  have hlw := withL_length x ts
  have hmax : ts.length ≤ maxLen := le_maxLen (by omega)
  have hmaw : (withL x ts).length ≤ maxLen := le_maxLen (by omega)
  have HS : Hid (setS ts x = if tensOk 0 ts = true ∧ tensOk 0 (withL x ts) = true then (withL x ts, 0) else (ts, 2)) := rfl
  generalize setS ts x = res at HS ⊢
  have HW : Hid (withL x ts = withL x ts) := rfl
  generalize hwl : withL x ts = wl at HS hlw hmaw HW
  have HWL := Lib.hid hwl
  clear hwl HW
  cases h1 : tensOk 0 ts with
  | false =>
    have H1 := Lib.hid h1
    have HO : Hid (res = (ts, 2)) := by rw [HS.out, if_neg (fun h => by rw [h1] at h; cases h.1)]; exact rfl
    clear h1 HS
    go_enter Try.func21, Try.ntmps21
    go_wp2_with (first
      | (go_at_call 27; ((with_reducible refine (with_any ts _ _ _ x _ rfl (by omega) hc hnc (hr.below (by repeat' (first | (with_reducible exact Below.refl _ _) | (with_reducible assumption) | (with_reducible refine Below.drew ?_) | (with_reducible refine Below.more ?_ _) | (with_reducible refine Below.put ?_ ?_ _) | (with_reducible refine Below.next ?_ (by with_reducible assumption)) | (with_reducible exact Nat.le_refl _) | (with_reducible refine Below.size' ?_) | omega)))).mono ?_); rw [HWL.out]; rintro e w2 ⟨a2, c2, rfl, hc2, hn2, hnear2, hr2, hb2⟩))
      | (go_at_call 12; ((with_reducible refine (check_any ts a _ _ _ rfl hmax (hr.below (by repeat' (first | (with_reducible exact Below.refl _ _) | (with_reducible assumption) | (with_reducible refine Below.drew ?_) | (with_reducible refine Below.more ?_ _) | (with_reducible refine Below.put ?_ ?_ _) | (with_reducible refine Below.next ?_ (by with_reducible assumption)) | (with_reducible exact Nat.le_refl _) | (with_reducible refine Below.size' ?_) | omega)))).mono ?_); rw [H1.out]; rintro e w3 ⟨rfl, hb3⟩)))
    go_returns
    exact ⟨a, c, by rw [HO.out]; rfl, by rw [HO.out]; exact hnc, hc, Near.self _ _, by rw [HO.out]; exact hr.below (by repeat' (first | (with_reducible exact Below.refl _ _) | (with_reducible assumption) | (with_reducible refine Below.drew ?_) | (with_reducible refine Below.more ?_ _) | (with_reducible refine Below.put ?_ ?_ _) | (with_reducible refine Below.next ?_ (by with_reducible assumption)) | (with_reducible exact Nat.le_refl _) | (with_reducible refine Below.size' ?_) | omega)), (by repeat' (first | (with_reducible exact Below.refl _ _) | (with_reducible assumption) | (with_reducible refine Below.drew ?_) | (with_reducible refine Below.more ?_ _) | (with_reducible refine Below.put ?_ ?_ _) | (with_reducible refine Below.next ?_ (by with_reducible assumption)) | (with_reducible exact Nat.le_refl _) | (with_reducible refine Below.size' ?_) | omega))⟩
  | true =>
    have H1 := Lib.hid h1
    cases h2 : tensOk 0 wl with
    | false =>
      have H2 := Lib.hid h2
      have HO : Hid (res = (ts, 2)) := by rw [HS.out, if_neg (fun h => by rw [h2] at h; cases h.2)]; exact rfl
      clear h1 h2 HS
      go_enter Try.func21, Try.ntmps21
      go_wp2_with (first
        | (go_at_call 27; ((with_reducible refine (with_any ts _ _ _ x _ rfl (by omega) hc hnc (hr.below (by repeat' (first | (with_reducible exact Below.refl _ _) | (with_reducible assumption) | (with_reducible refine Below.drew ?_) | (with_reducible refine Below.more ?_ _) | (with_reducible refine Below.put ?_ ?_ _) | (with_reducible refine Below.next ?_ (by with_reducible assumption)) | (with_reducible exact Nat.le_refl _) | (with_reducible refine Below.size' ?_) | omega)))).mono ?_); rw [HWL.out]; rintro e w2 ⟨a2, c2, rfl, hc2, hn2, hnear2, hr2, hb2⟩))
        | (go_at_call 12; ((with_reducible refine (check_any ts a _ _ _ rfl hmax (hr.below (by repeat' (first | (with_reducible exact Below.refl _ _) | (with_reducible assumption) | (with_reducible refine Below.drew ?_) | (with_reducible refine Below.more ?_ _) | (with_reducible refine Below.put ?_ ?_ _) | (with_reducible refine Below.next ?_ (by with_reducible assumption)) | (with_reducible exact Nat.le_refl _) | (with_reducible refine Below.size' ?_) | omega)))).mono ?_); rw [H1.out]; rintro e w3 ⟨rfl, hb3⟩))
        | (go_at_call 12; ((with_reducible refine (check_any wl a2 _ _ _ rfl hmaw (hr2.below (by repeat' (first | (with_reducible exact Below.refl _ _) | (with_reducible assumption) | (with_reducible refine Below.drew ?_) | (with_reducible refine Below.more ?_ _) | (with_reducible refine Below.put ?_ ?_ _) | (with_reducible refine Below.next ?_ (by with_reducible assumption)) | (with_reducible exact Nat.le_refl _) | (with_reducible refine Below.size' ?_) | omega)))).mono ?_); rw [H2.out]; rintro e w4 ⟨rfl, hb4⟩)))
      go_returns
      exact ⟨a, c, by rw [HO.out]; rfl, by rw [HO.out]; exact hnc, hc, Near.self _ _, by rw [HO.out]; exact hr.below (by repeat' (first | (with_reducible exact Below.refl _ _) | (with_reducible assumption) | (with_reducible refine Below.drew ?_) | (with_reducible refine Below.more ?_ _) | (with_reducible refine Below.put ?_ ?_ _) | (with_reducible refine Below.next ?_ (by with_reducible assumption)) | (with_reducible exact Nat.le_refl _) | (with_reducible refine Below.size' ?_) | omega)), (by repeat' (first | (with_reducible exact Below.refl _ _) | (with_reducible assumption) | (with_reducible refine Below.drew ?_) | (with_reducible refine Below.more ?_ _) | (with_reducible refine Below.put ?_ ?_ _) | (with_reducible refine Below.next ?_ (by with_reducible assumption)) | (with_reducible exact Nat.le_refl _) | (with_reducible refine Below.size' ?_) | omega))⟩
    | true =>
      have H2 := Lib.hid h2
      have HO : Hid (res = (wl, 0)) := by rw [HS.out, if_pos ⟨h1, h2⟩]; exact rfl
      clear h1 h2 HS
      go_enter Try.func21, Try.ntmps21
      go_wp2_with (first
        | (go_at_call 27; ((with_reducible refine (with_any ts _ _ _ x _ rfl (by omega) hc hnc (hr.below (by repeat' (first | (with_reducible exact Below.refl _ _) | (with_reducible assumption) | (with_reducible refine Below.drew ?_) | (with_reducible refine Below.more ?_ _) | (with_reducible refine Below.put ?_ ?_ _) | (with_reducible refine Below.next ?_ (by with_reducible assumption)) | (with_reducible exact Nat.le_refl _) | (with_reducible refine Below.size' ?_) | omega)))).mono ?_); rw [HWL.out]; rintro e w2 ⟨a2, c2, rfl, hc2, hn2, hnear2, hr2, hb2⟩))
        | (go_at_call 12; ((with_reducible refine (check_any ts a _ _ _ rfl hmax (hr.below (by repeat' (first | (with_reducible exact Below.refl _ _) | (with_reducible assumption) | (with_reducible refine Below.drew ?_) | (with_reducible refine Below.more ?_ _) | (with_reducible refine Below.put ?_ ?_ _) | (with_reducible refine Below.next ?_ (by with_reducible assumption)) | (with_reducible exact Nat.le_refl _) | (with_reducible refine Below.size' ?_) | omega)))).mono ?_); rw [H1.out]; rintro e w3 ⟨rfl, hb3⟩))
        | (go_at_call 12; ((with_reducible refine (check_any wl a2 _ _ _ rfl hmaw (hr2.below (by repeat' (first | (with_reducible exact Below.refl _ _) | (with_reducible assumption) | (with_reducible refine Below.drew ?_) | (with_reducible refine Below.more ?_ _) | (with_reducible refine Below.put ?_ ?_ _) | (with_reducible refine Below.next ?_ (by with_reducible assumption)) | (with_reducible exact Nat.le_refl _) | (with_reducible refine Below.size' ?_) | omega)))).mono ?_); rw [H2.out]; rintro e w4 ⟨rfl, hb4⟩)))
      go_returns
      exact ⟨a2, c2, by rw [HO.out]; rfl, by rw [HO.out]; exact hc2, hn2, (hnear2.mono (by simp)).trans' _, by rw [HO.out]; exact hr2.below (by repeat' (first | (with_reducible exact Below.refl _ _) | (with_reducible assumption) | (with_reducible refine Below.drew ?_) | (with_reducible refine Below.more ?_ _) | (with_reducible refine Below.put ?_ ?_ _) | (with_reducible refine Below.next ?_ (by with_reducible assumption)) | (with_reducible exact Nat.le_refl _) | (with_reducible refine Below.size' ?_) | omega)), (by repeat' (first | (with_reducible exact Below.refl _ _) | (with_reducible assumption) | (with_reducible refine Below.drew ?_) | (with_reducible refine Below.more ?_ _) | (with_reducible refine Below.put ?_ ?_ _) | (with_reducible refine Below.next ?_ (by with_reducible assumption)) | (with_reducible exact Nat.le_refl _) | (with_reducible refine Below.size' ?_) | omega))⟩

set_option maxHeartbeats 1000000 in
theorem refset_any (ts : List Tenant) (a : Option Addr) (n c : Nat) (x : Tenant) (w : World) (hn : ts.length = n) (hl : ts.length ≤ 900) (hc : a = none → c = 0) (hnc : n ≤ c) (hr : TRow w a ts) :
    Calls Try.prog 22 #[.slice a n c, x.agg] w (RetTE w a (setS ts x)) := by
  subst hn
  have hlw := withL_length x ts
  have hmax : ts.length ≤ maxLen := le_maxLen (by omega)
  have hmaw : (withL x ts).length ≤ maxLen := le_maxLen (by omega)
  have HS : Hid (setS ts x = if tensOk 0 ts = true ∧ tensOk 0 (withL x ts) = true then (withL x ts, 0) else (ts, 2)) := rfl
  generalize setS ts x = res at HS ⊢
  have HRE := Lib.hid (refWith_eq (ts := ts) x)
  generalize hwl : withL x ts = wl at HS hlw hmaw HRE
  have HWL := Lib.hid hwl
  clear hwl
  cases h1 : tensOk 0 ts with
  | false =>
    have H1 := Lib.hid h1
    have HO : Hid (res = (ts, 2)) := by rw [HS.out, if_neg (fun h => by rw [h1] at h; cases h.1)]; exact rfl
    clear h1 HS
    go_enter Try.func22, Try.ntmps22
    go_wp2_with (first
      | (go_at_call 13; ((with_reducible refine (refcheck_any ts a _ _ _ rfl hmax (hr.below (by repeat' (first | (with_reducible exact Below.refl _ _) | (with_reducible assumption) | (with_reducible refine Below.drew ?_) | (with_reducible refine Below.more ?_ _) | (with_reducible refine Below.put ?_ ?_ _) | (with_reducible refine Below.next ?_ (by with_reducible assumption)) | (with_reducible exact Nat.le_refl _) | (with_reducible refine Below.size' ?_) | omega)))).mono ?_); rw [H1.out]; rintro e w3 ⟨rfl, hb3⟩)))
    go_returns
    exact ⟨a, c, by rw [HO.out]; rfl, by rw [HO.out]; exact hnc, hc, Near.self _ _, by rw [HO.out]; exact hr.below (by repeat' (first | (with_reducible exact Below.refl _ _) | (with_reducible assumption) | (with_reducible refine Below.drew ?_) | (with_reducible refine Below.more ?_ _) | (with_reducible refine Below.put ?_ ?_ _) | (with_reducible refine Below.next ?_ (by with_reducible assumption)) | (with_reducible exact Nat.le_refl _) | (with_reducible refine Below.size' ?_) | omega)), (by repeat' (first | (with_reducible exact Below.refl _ _) | (with_reducible assumption) | (with_reducible refine Below.drew ?_) | (with_reducible refine Below.more ?_ _) | (with_reducible refine Below.put ?_ ?_ _) | (with_reducible refine Below.next ?_ (by with_reducible assumption)) | (with_reducible exact Nat.le_refl _) | (with_reducible refine Below.size' ?_) | omega))⟩
  | true =>
    have H1 := Lib.hid h1
    have HRW := Lib.hid (HRE.out h1)
    cases h2 : tensOk 0 wl with
    | false =>
      have H2 := Lib.hid h2
      have HO : Hid (res = (ts, 2)) := by rw [HS.out, if_neg (fun h => by rw [h2] at h; cases h.2)]; exact rfl
      clear h1 h2 HS
      go_enter Try.func22, Try.ntmps22
      go_wp2_with (first
        | (go_at_call 13; ((with_reducible refine (refcheck_any ts a _ _ _ rfl hmax (hr.below (by repeat' (first | (with_reducible exact Below.refl _ _) | (with_reducible assumption) | (with_reducible refine Below.drew ?_) | (with_reducible refine Below.more ?_ _) | (with_reducible refine Below.put ?_ ?_ _) | (with_reducible refine Below.next ?_ (by with_reducible assumption)) | (with_reducible exact Nat.le_refl _) | (with_reducible refine Below.size' ?_) | omega)))).mono ?_); rw [H1.out]; rintro e w3 ⟨rfl, hb3⟩; have hx3 := own_cells hb3; have hz3 := own_frozen hb3))
        | (go_at_call 31; ((with_reducible refine (refwith_any ts _ _ _ x _ rfl (by omega) (hr.below (by repeat' (first | (with_reducible exact Below.refl _ _) | (with_reducible assumption) | (with_reducible refine Below.drew ?_) | (with_reducible refine Below.more ?_ _) | (with_reducible refine Below.put ?_ ?_ _) | (with_reducible refine Below.next ?_ (by with_reducible assumption)) | (with_reducible exact Nat.le_refl _) | (with_reducible refine Below.size' ?_) | omega)))).mono ?_); rw [HRW.out]; rintro e w2 ⟨a2, c2, rfl, hc2, hn2, hnear2, hr2, hb2⟩))
        | (go_at_call 13; ((with_reducible refine (refcheck_any wl a2 _ _ _ rfl hmaw (hr2.below (by repeat' (first | (with_reducible exact Below.refl _ _) | (with_reducible assumption) | (with_reducible refine Below.drew ?_) | (with_reducible refine Below.more ?_ _) | (with_reducible refine Below.put ?_ ?_ _) | (with_reducible refine Below.next ?_ (by with_reducible assumption)) | (with_reducible exact Nat.le_refl _) | (with_reducible refine Below.size' ?_) | omega)))).mono ?_); rw [H2.out]; rintro e w4 ⟨rfl, hb4⟩)))
      go_returns
      exact ⟨a, c, by rw [HO.out]; rfl, by rw [HO.out]; exact hnc, hc, Near.self _ _, by rw [HO.out]; exact hr.below (by repeat' (first | (with_reducible exact Below.refl _ _) | (with_reducible assumption) | (with_reducible refine Below.drew ?_) | (with_reducible refine Below.more ?_ _) | (with_reducible refine Below.put ?_ ?_ _) | (with_reducible refine Below.next ?_ (by with_reducible assumption)) | (with_reducible exact Nat.le_refl _) | (with_reducible refine Below.size' ?_) | omega)), (by repeat' (first | (with_reducible exact Below.refl _ _) | (with_reducible assumption) | (with_reducible refine Below.drew ?_) | (with_reducible refine Below.more ?_ _) | (with_reducible refine Below.put ?_ ?_ _) | (with_reducible refine Below.next ?_ (by with_reducible assumption)) | (with_reducible exact Nat.le_refl _) | (with_reducible refine Below.size' ?_) | omega))⟩
    | true =>
      have H2 := Lib.hid h2
      have HO : Hid (res = (wl, 0)) := by rw [HS.out, if_pos ⟨h1, h2⟩]; exact rfl
      clear h1 h2 HS
      go_enter Try.func22, Try.ntmps22
      go_wp2_with (first
        | (go_at_call 13; ((with_reducible refine (refcheck_any ts a _ _ _ rfl hmax (hr.below (by repeat' (first | (with_reducible exact Below.refl _ _) | (with_reducible assumption) | (with_reducible refine Below.drew ?_) | (with_reducible refine Below.more ?_ _) | (with_reducible refine Below.put ?_ ?_ _) | (with_reducible refine Below.next ?_ (by with_reducible assumption)) | (with_reducible exact Nat.le_refl _) | (with_reducible refine Below.size' ?_) | omega)))).mono ?_); rw [H1.out]; rintro e w3 ⟨rfl, hb3⟩; have hx3 := own_cells hb3; have hz3 := own_frozen hb3))
        | (go_at_call 31; ((with_reducible refine (refwith_any ts _ _ _ x _ rfl (by omega) (hr.below (by repeat' (first | (with_reducible exact Below.refl _ _) | (with_reducible assumption) | (with_reducible refine Below.drew ?_) | (with_reducible refine Below.more ?_ _) | (with_reducible refine Below.put ?_ ?_ _) | (with_reducible refine Below.next ?_ (by with_reducible assumption)) | (with_reducible exact Nat.le_refl _) | (with_reducible refine Below.size' ?_) | omega)))).mono ?_); rw [HRW.out]; rintro e w2 ⟨a2, c2, rfl, hc2, hn2, hnear2, hr2, hb2⟩))
        | (go_at_call 13; ((with_reducible refine (refcheck_any wl a2 _ _ _ rfl hmaw (hr2.below (by repeat' (first | (with_reducible exact Below.refl _ _) | (with_reducible assumption) | (with_reducible refine Below.drew ?_) | (with_reducible refine Below.more ?_ _) | (with_reducible refine Below.put ?_ ?_ _) | (with_reducible refine Below.next ?_ (by with_reducible assumption)) | (with_reducible exact Nat.le_refl _) | (with_reducible refine Below.size' ?_) | omega)))).mono ?_); rw [H2.out]; rintro e w4 ⟨rfl, hb4⟩)))
      go_returns
      exact ⟨a2, c2, by rw [HO.out]; rfl, by rw [HO.out]; exact hc2, hn2, (hnear2.mono (by (with_reducible refine Below.size' ?_); repeat' (first | (with_reducible exact Below.refl _ _) | (with_reducible assumption) | (with_reducible refine Below.drew ?_) | (with_reducible refine Below.more ?_ _) | (with_reducible refine Below.put ?_ ?_ _) | (with_reducible refine Below.next ?_ (by with_reducible assumption)) | (with_reducible exact Nat.le_refl _) | omega))).trans' _, by rw [HO.out]; exact hr2.below (by repeat' (first | (with_reducible exact Below.refl _ _) | (with_reducible assumption) | (with_reducible refine Below.drew ?_) | (with_reducible refine Below.more ?_ _) | (with_reducible refine Below.put ?_ ?_ _) | (with_reducible refine Below.next ?_ (by with_reducible assumption)) | (with_reducible exact Nat.le_refl _) | (with_reducible refine Below.size' ?_) | omega)), (by repeat' (first | (with_reducible exact Below.refl _ _) | (with_reducible assumption) | (with_reducible refine Below.drew ?_) | (with_reducible refine Below.more ?_ _) | (with_reducible refine Below.put ?_ ?_ _) | (with_reducible refine Below.next ?_ (by with_reducible assumption)) | (with_reducible exact Nat.le_refl _) | (with_reducible refine Below.size' ?_) | omega))⟩
end Go.Proofs.Ytnpbajmpenpnbaa
