import Derived.Test.YtnpbajmpenpnbaaRefSweep
namespace Go.Proofs.Ytnpbajmpenpnbaa
open Go.ChangeShapes Go.WideShapes Go.ChangeAt Go.RowKit

theorem teql_same (i r b k : Int) (g : Bool) (w : World) : (binOp .eql 38 (.agg #[.int .i64 i, .int .i64 r, .int .i64 b, .int .i64 k, .bool g]) (.agg #[.int .i64 i, .int .i64 r, .int .i64 b, .int .i64 k, .bool g])).run Try.prog w = .ok (.bool true) w := by
  have h := teq_run ⟨i, r, b, k, g⟩ ⟨i, r, b, k, g⟩ w
  rw [run_eql_struct, h]
  simp
theorem setS_length (ts : List Tenant) (x : Tenant) : (setS ts x).1.length ≤ ts.length + 1 := by
  have := withL_length x ts
  unfold setS; split <;> simp <;> omega

set_option maxHeartbeats 4000000 in
theorem law_finds (a b : Option Addr) (ts : List Tenant) (x : Tenant) (outs : List Int) (n c m d : Nat) (w : World) (hn : ts.length = n) (hm : outs.length = m) (hc : a = none → c = 0) (hnc : n ≤ c) (hr : TRow w a ts) (hro : Row w b (outs.map (Value.int .i64))) :
    Calls Try.prog 6 #[.slice a n c, x.agg, .slice b m d] w fun e w' => e = .returned (.bool true) ∧ Below w.heap.size w w' := by
  subst hn
  subst hm
  by_cases hg : 60 < ts.length
  · have HG := Lib.hid hg
    clear hg
    go_enter Try.func6, Try.ntmps6
    go_wp2_with (first
      | (go_at_call 7; ((with_reducible refine (great_any _ _ _ _ true (decide_eq_true HG.out)).mono ?_); rintro e w1 ⟨rfl, rfl⟩))
      | (go_at_call 8; ((with_reducible refine (wakes_any _).mono ?_); rintro e w2 ⟨rfl, hb2⟩)))
    go_returns
    exact ⟨rfl, (by repeat' (first | (with_reducible exact Below.refl _ _) | (with_reducible assumption) | (with_reducible refine Below.drew ?_) | (with_reducible refine Below.more ?_ _) | (with_reducible refine Below.put ?_ ?_ _) | (with_reducible refine Below.next ?_ (by with_reducible assumption)) | (with_reducible exact Nat.le_refl _) | (with_reducible refine Below.size' ?_) | omega))⟩
  by_cases hg2 : 60 < outs.length
  · have HG := Lib.hid hg
    clear hg
    go_enter Try.func6, Try.ntmps6
    go_wp2_with (first
      | (go_at_call 7; ((with_reducible refine (great_any _ _ _ _ false (decide_eq_false HG.out)).mono ?_); rintro e w1 ⟨rfl, rfl⟩))
      | (go_at_call 8; ((with_reducible refine (wakes_any _).mono ?_); rintro e w2 ⟨rfl, hb2⟩)))
    go_returns
    exact ⟨rfl, (by repeat' (first | (with_reducible exact Below.refl _ _) | (with_reducible assumption) | (with_reducible refine Below.drew ?_) | (with_reducible refine Below.more ?_ _) | (with_reducible refine Below.put ?_ ?_ _) | (with_reducible refine Below.next ?_ (by with_reducible assumption)) | (with_reducible exact Nat.le_refl _) | (with_reducible refine Below.size' ?_) | omega))⟩
  have HG := Lib.hid hg
  have hl : ts.length ≤ 60 := by omega
  have hmax : ts.length ≤ maxLen := le_maxLen (by omega)
  have hs := setS_length ts x
  have hw := sweepS_length ts outs
  rcases hst : setS ts x with ⟨r, se⟩
  rw [hst] at hs
  replace hs : r.length ≤ ts.length + 1 := hs
  have hrm : r.length ≤ maxLen := le_maxLen (by omega)
  generalize hsw : sweepS ts outs = s at hw
  have hsm : s.length ≤ maxLen := le_maxLen (by omega)
  obtain ⟨xi, xr, xb, xk, xg⟩ := x
  rcases hfd : findT ts xi with ⟨⟨fi, fr, fb, fk, fg⟩, ok⟩
  have HF := Lib.hid hfd
  have HS := Lib.hid hst
  have HW := Lib.hid hsw
  have HE := teql_same fi fr fb fk fg
  clear hg hst hsw hfd
  go_enter Try.func6, Try.ntmps6
  go_wp2_with (first
    | (go_at_call 7; ((with_reducible refine (great_any _ _ _ _ false (decide_eq_false HG.out)).mono ?_); rintro e w1 ⟨rfl, rfl⟩))
    | (go_at_call 19; ((with_reducible refine (pfind_any ts a _ _ _ _ rfl hmax (hr.below (by repeat' (first | (with_reducible exact Below.refl _ _) | (with_reducible assumption) | (with_reducible refine Below.drew ?_) | (with_reducible refine Below.more ?_ _) | (with_reducible refine Below.put ?_ ?_ _) | (with_reducible refine Below.next ?_ (by with_reducible assumption)) | (with_reducible exact Nat.le_refl _) | (with_reducible refine Below.size' ?_) | omega)))).mono ?_); rw [HF.out]; rintro e w2 ⟨rfl, hb2⟩; have qx2 : Below (World.alloc w (.cells #[.int .i64 xi, .int .i64 xr, .int .i64 xb, .int .i64 xk, .bool xg] 38)).heap.size (World.alloc w (.cells #[.int .i64 xi, .int .i64 xr, .int .i64 xb, .int .i64 xk, .bool xg] 38)) w2 := (by repeat' (first | (with_reducible exact Below.refl _ _) | (with_reducible assumption) | (with_reducible refine Below.drew ?_) | (with_reducible refine Below.more ?_ _) | (with_reducible refine Below.put ?_ ?_ _) | (with_reducible refine Below.next ?_ (by with_reducible assumption)) | (with_reducible exact Nat.le_refl _) | (with_reducible refine Below.size' ?_) | omega)); have hx2 := own_cells qx2; have sx2 := Below.boxed qx2; clear qx2))
    | (go_at_call 20; ((with_reducible refine (reffind_any ts a _ _ _ _ rfl hmax (hr.below (by repeat' (first | (with_reducible exact Below.refl _ _) | (with_reducible assumption) | (with_reducible refine Below.drew ?_) | (with_reducible refine Below.more ?_ _) | (with_reducible refine Below.put ?_ ?_ _) | (with_reducible refine Below.next ?_ (by with_reducible assumption)) | (with_reducible exact Nat.le_refl _) | (with_reducible refine Below.size' ?_) | omega)))).mono ?_); rw [HF.out]; rintro e w3 ⟨rfl, hb3⟩; have qx3 : Below (World.alloc w (.cells #[.int .i64 xi, .int .i64 xr, .int .i64 xb, .int .i64 xk, .bool xg] 38)).heap.size (World.alloc w (.cells #[.int .i64 xi, .int .i64 xr, .int .i64 xb, .int .i64 xk, .bool xg] 38)) w3 := (by repeat' (first | (with_reducible exact Below.refl _ _) | (with_reducible assumption) | (with_reducible refine Below.drew ?_) | (with_reducible refine Below.more ?_ _) | (with_reducible refine Below.put ?_ ?_ _) | (with_reducible refine Below.next ?_ (by with_reducible assumption)) | (with_reducible exact Nat.le_refl _) | (with_reducible refine Below.size' ?_) | omega)); have hx3 := own_cells qx3; have sx3 := Below.boxed qx3; clear qx3))
    | (go_at_call 21; ((with_reducible refine (set_any ts a _ _ ⟨xi, xr, xb, xk, xg⟩ _ rfl (by omega) hc hnc (hr.below (by repeat' (first | (with_reducible exact Below.refl _ _) | (with_reducible assumption) | (with_reducible refine Below.drew ?_) | (with_reducible refine Below.more ?_ _) | (with_reducible refine Below.put ?_ ?_ _) | (with_reducible refine Below.next ?_ (by with_reducible assumption)) | (with_reducible exact Nat.le_refl _) | (with_reducible refine Below.size' ?_) | omega)))).mono ?_); rw [HS.out]; rintro e w4 ⟨a4, c4, rfl, hc4, hn4, _, hr4, hb4⟩; have qx4 : Below (World.alloc w (.cells #[.int .i64 xi, .int .i64 xr, .int .i64 xb, .int .i64 xk, .bool xg] 38)).heap.size (World.alloc w (.cells #[.int .i64 xi, .int .i64 xr, .int .i64 xb, .int .i64 xk, .bool xg] 38)) w4 := (by repeat' (first | (with_reducible exact Below.refl _ _) | (with_reducible assumption) | (with_reducible refine Below.drew ?_) | (with_reducible refine Below.more ?_ _) | (with_reducible refine Below.put ?_ ?_ _) | (with_reducible refine Below.next ?_ (by with_reducible assumption)) | (with_reducible exact Nat.le_refl _) | (with_reducible refine Below.size' ?_) | omega)); have hx4 := own_cells qx4; have sx4 := Below.boxed qx4; clear qx4))
    | (go_at_call 22; ((with_reducible refine (refset_any ts a _ _ ⟨xi, xr, xb, xk, xg⟩ _ rfl (by omega) hc hnc (hr.below (by repeat' (first | (with_reducible exact Below.refl _ _) | (with_reducible assumption) | (with_reducible refine Below.drew ?_) | (with_reducible refine Below.more ?_ _) | (with_reducible refine Below.put ?_ ?_ _) | (with_reducible refine Below.next ?_ (by with_reducible assumption)) | (with_reducible exact Nat.le_refl _) | (with_reducible refine Below.size' ?_) | omega)))).mono ?_); rw [HS.out]; rintro e w5 ⟨a5, c5, rfl, hc5, hn5, _, hr5, hb5⟩; have qy5 : Below (World.alloc w2 (.cells #[.int .i64 fi, .int .i64 fr, .int .i64 fb, .int .i64 fk, .bool fg] 38)).heap.size (World.alloc w2 (.cells #[.int .i64 fi, .int .i64 fr, .int .i64 fb, .int .i64 fk, .bool fg] 38)) w5 := (by repeat' (first | (with_reducible exact Below.refl _ _) | (with_reducible assumption) | (with_reducible refine Below.drew ?_) | (with_reducible refine Below.more ?_ _) | (with_reducible refine Below.put ?_ ?_ _) | (with_reducible refine Below.next ?_ (by with_reducible assumption)) | (with_reducible exact Nat.le_refl _) | (with_reducible refine Below.size' ?_) | omega)); have hy5 := own_cells qy5; have sy5 := Below.boxed qy5; clear qy5; have qz5 : Below (World.alloc w3 (.cells #[.int .i64 fi, .int .i64 fr, .int .i64 fb, .int .i64 fk, .bool fg] 38)).heap.size (World.alloc w3 (.cells #[.int .i64 fi, .int .i64 fr, .int .i64 fb, .int .i64 fk, .bool fg] 38)) w5 := (by repeat' (first | (with_reducible exact Below.refl _ _) | (with_reducible assumption) | (with_reducible refine Below.drew ?_) | (with_reducible refine Below.more ?_ _) | (with_reducible refine Below.put ?_ ?_ _) | (with_reducible refine Below.next ?_ (by with_reducible assumption)) | (with_reducible exact Nat.le_refl _) | (with_reducible refine Below.size' ?_) | omega)); have hz5 := own_cells qz5; have sz5 := Below.boxed qz5; clear qz5))
    | (go_at_call 11; ((with_reducible refine (same_any r r a4 a5 _ _ _ _ _ rfl rfl hrm hrm (hr4.below (by repeat' (first | (with_reducible exact Below.refl _ _) | (with_reducible assumption) | (with_reducible refine Below.drew ?_) | (with_reducible refine Below.more ?_ _) | (with_reducible refine Below.put ?_ ?_ _) | (with_reducible refine Below.next ?_ (by with_reducible assumption)) | (with_reducible exact Nat.le_refl _) | (with_reducible refine Below.size' ?_) | omega))) (hr5.below (by repeat' (first | (with_reducible exact Below.refl _ _) | (with_reducible assumption) | (with_reducible refine Below.drew ?_) | (with_reducible refine Below.more ?_ _) | (with_reducible refine Below.put ?_ ?_ _) | (with_reducible refine Below.next ?_ (by with_reducible assumption)) | (with_reducible exact Nat.le_refl _) | (with_reducible refine Below.size' ?_) | omega)))).mono ?_); rw [decide_eq_true (rfl : r = r)]; rintro e w6 ⟨rfl, hb6⟩))
    | (go_at_call 23; ((with_reducible refine (sweep_any ts outs a b _ _ _ _ _ rfl rfl (by omega) (by omega) hc hnc (hr.below (by repeat' (first | (with_reducible exact Below.refl _ _) | (with_reducible assumption) | (with_reducible refine Below.drew ?_) | (with_reducible refine Below.more ?_ _) | (with_reducible refine Below.put ?_ ?_ _) | (with_reducible refine Below.next ?_ (by with_reducible assumption)) | (with_reducible exact Nat.le_refl _) | (with_reducible refine Below.size' ?_) | omega))) (Row.below hro (by repeat' (first | (with_reducible exact Below.refl _ _) | (with_reducible assumption) | (with_reducible refine Below.drew ?_) | (with_reducible refine Below.more ?_ _) | (with_reducible refine Below.put ?_ ?_ _) | (with_reducible refine Below.next ?_ (by with_reducible assumption)) | (with_reducible exact Nat.le_refl _) | (with_reducible refine Below.size' ?_) | omega)))).mono ?_); rw [HW.out]; rintro e w7 ⟨a7, c7, rfl, hc7, hn7, _, hr7, hb7⟩))
    | (go_at_call 24; ((with_reducible refine (refsweep_any ts outs a b _ _ _ _ _ rfl rfl (by omega) (by omega) hc hnc (hr.below (by repeat' (first | (with_reducible exact Below.refl _ _) | (with_reducible assumption) | (with_reducible refine Below.drew ?_) | (with_reducible refine Below.more ?_ _) | (with_reducible refine Below.put ?_ ?_ _) | (with_reducible refine Below.next ?_ (by with_reducible assumption)) | (with_reducible exact Nat.le_refl _) | (with_reducible refine Below.size' ?_) | omega))) (Row.below hro (by repeat' (first | (with_reducible exact Below.refl _ _) | (with_reducible assumption) | (with_reducible refine Below.drew ?_) | (with_reducible refine Below.more ?_ _) | (with_reducible refine Below.put ?_ ?_ _) | (with_reducible refine Below.next ?_ (by with_reducible assumption)) | (with_reducible exact Nat.le_refl _) | (with_reducible refine Below.size' ?_) | omega)))).mono ?_); rw [HW.out]; rintro e w8 ⟨a8, c8, rfl, hc8, hn8, _, hr8, hb8⟩))
    | (go_at_call 11; ((with_reducible refine (same_any s s a7 a8 _ _ _ _ _ rfl rfl hsm hsm (hr7.below (by repeat' (first | (with_reducible exact Below.refl _ _) | (with_reducible assumption) | (with_reducible refine Below.drew ?_) | (with_reducible refine Below.more ?_ _) | (with_reducible refine Below.put ?_ ?_ _) | (with_reducible refine Below.next ?_ (by with_reducible assumption)) | (with_reducible exact Nat.le_refl _) | (with_reducible refine Below.size' ?_) | omega))) (hr8.below (by repeat' (first | (with_reducible exact Below.refl _ _) | (with_reducible assumption) | (with_reducible refine Below.drew ?_) | (with_reducible refine Below.more ?_ _) | (with_reducible refine Below.put ?_ ?_ _) | (with_reducible refine Below.next ?_ (by with_reducible assumption)) | (with_reducible exact Nat.le_refl _) | (with_reducible refine Below.size' ?_) | omega)))).mono ?_); rw [decide_eq_true (rfl : s = s)]; rintro e w9 ⟨rfl, hb9⟩))
    | (go_at_call 8; ((with_reducible refine (wakes_any _).mono ?_); rintro e w10 ⟨rfl, hb10⟩)))
  go_returns
  exact ⟨rfl, (by repeat' (first | (with_reducible exact Below.refl _ _) | (with_reducible assumption) | (with_reducible refine Below.drew ?_) | (with_reducible refine Below.more ?_ _) | (with_reducible refine Below.put ?_ ?_ _) | (with_reducible refine Below.next ?_ (by with_reducible assumption)) | (with_reducible exact Nat.le_refl _) | (with_reducible refine Below.size' ?_) | omega))⟩
end Go.Proofs.Ytnpbajmpenpnbaa
