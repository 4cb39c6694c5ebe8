import Derived.Test.YtnpbajmpenpnbaaWakes
namespace Go.Proofs.Ytnpbajmpenpnbaa
open Go.ChangeShapes Go.WideShapes Go.ChangeAt Go.RowKit

theorem withoutL_length (id : Int) (ts : List Tenant) : (withoutL id ts).length ≤ ts.length := by
  unfold withoutL
  split
  · simp; omega
  · exact Nat.le_refl _
theorem withL_length (x : Tenant) (ts : List Tenant) : (withL x ts).length ≤ ts.length + 1 := by
  have h := withoutL_length x.id ts
  unfold withL
  simp
  omega
theorem putS_length (ts : List Tenant) (id rate burst out : Int) : (putS ts id rate burst out).1.length ≤ ts.length + 1 := by
  unfold putS
  have h := withL_length ⟨id, rate, burst, cutI (findT ts id).1.bucket burst (max out 0), false⟩ ts
  repeat' split
  all_goals first | exact h | exact Nat.le_succ _
theorem deleteS_length (ts : List Tenant) (id out : Int) : (deleteS ts id out).1.length ≤ ts.length + 1 := by
  unfold deleteS
  have h := withL_length ⟨id, 0, 0, 0, true⟩ ts
  have h2 := withoutL_length id ts
  repeat' split
  all_goals first | exact h | exact Nat.le_succ _ | exact Nat.le_succ_of_le h2
set_option maxHeartbeats 4000000 in
theorem law_puts (a : Option Addr) (ts : List Tenant) (n c : Nat) (id rate burst out : Int) (w : World) (hn : ts.length = n) (hc : a = none → c = 0) (hnc : n ≤ c) (hr : TRow w a ts) :
    Calls Try.prog 3 #[.slice a n c, .int .i64 id, .int .i64 rate, .int .i64 burst, .int .i64 out] w fun e w' => e = .returned (.bool true) ∧ Below w.heap.size w w' := by
  subst hn
  by_cases hg : 60 < ts.length
  · have HG := Lib.hid hg
    clear hg
    go_enter Try.func3, Try.ntmps3
    go_wp2_with (first
      | (go_at_call 7; ((with_reducible refine (great_any _ _ _ _ true (decide_eq_true HG.out)).mono ?_); rintro e w1 ⟨rfl, rfl⟩))
      | (go_at_call 8; ((with_reducible refine (wakes_any _).mono ?_); rintro e w2 ⟨rfl, hb2⟩)))
    go_returns
    exact ⟨rfl, hb2⟩
  · have hl : ts.length ≤ 60 := by omega
    have hmax : ts.length ≤ maxLen := le_maxLen (by omega)
    have hlr := putS_length ts id rate burst out
    have HG := Lib.hid hg
    clear hg
    rcases hp : putS ts id rate burst out with ⟨r, ⟨ae, ar, ab, al, az⟩⟩
    rw [hp] at hlr
    replace hlr : r.length ≤ ts.length + 1 := hlr
    have hrm : r.length ≤ maxLen := le_maxLen (by omega)
    have HP := Lib.hid hp
    clear hp
    have HE := aeql_same ae ar ab al az
    go_enter Try.func3, Try.ntmps3
    go_wp2_with (first
      | (go_at_call 7; ((with_reducible refine (great_any _ _ _ _ false (decide_eq_false HG.out)).mono ?_); rintro e w0 ⟨rfl, rfl⟩))
      | (go_at_call 9; ((with_reducible refine (pput_any ts _ _ _ _ _ _ _ _ rfl (by omega) hc hnc hr).mono ?_); rw [HP.out]; rintro e w1 ⟨a1, c1, rfl, hc1, hn1, _, hr1, hb1⟩))
      | (go_at_call 10; ((with_reducible refine (refput_any ts _ _ _ _ _ _ _ _ rfl (by omega) hc hnc (Row.alloc (hr.below hb1) _)).mono ?_); rw [HP.out]; rintro e w2 ⟨a2, c2, rfl, hc2, hn2, _, hr2, hb2⟩))
      | (go_at_call 11; ((with_reducible refine (same_any r r _ _ _ _ _ _ _ rfl rfl hrm hrm (Row.alloc (hr1.below (((Below.refl w1.heap.size w1).alloc (Nat.le_refl _) _).trans (hb2.mono (by simp)))) _) (Row.alloc hr2 _)).mono ?_); rw [decide_eq_true (rfl : r = r)]; rintro e w3 ⟨rfl, hb3⟩; have g1 := bstep hb2 hb3; have d1 := own_cells g1; have d2 := own_cells hb3; have q3 := hb1.trans ((((Below.refl w1.heap.size w1).alloc (Nat.le_refl _) _).trans (g1.mono (by simp))).mono hb1.size)))
      | (go_at_call 12; ((with_reducible refine (check_any ts _ _ _ _ rfl hmax (hr.below q3)).mono ?_); rintro e w4 ⟨rfl, hb4⟩; have q4 := q3.trans (hb4.mono q3.size)))
      | (go_at_call 13; ((with_reducible refine (refcheck_any ts _ _ _ _ rfl hmax (hr.below q4)).mono ?_); rintro e w5 ⟨rfl, hb5⟩; have q5 := q4.trans (hb5.mono q4.size)))
      | (go_at_call 8; ((with_reducible refine (wakes_any _).mono ?_); rintro e w6 ⟨rfl, hb6⟩)))
    go_returns
    exact ⟨rfl, q5.trans (hb6.mono q5.size)⟩
end Go.Proofs.Ytnpbajmpenpnbaa
