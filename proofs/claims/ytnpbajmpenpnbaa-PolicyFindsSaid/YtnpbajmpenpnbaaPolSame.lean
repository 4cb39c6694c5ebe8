import Derived.Test.YtnpbajmpenpnbaaRefPutGo
namespace Go.Proofs.Ytnpbajmpenpnbaa
open Go.ChangeShapes Go.WideShapes Go.ChangeAt Go.RowKit

theorem teq_run (t u : Tenant) (w : World) : (Op.equalIn 10000 38 t.agg u.agg).run Try.prog w = .ok (decide (t = u)) w := by
  obtain ⟨t0, t1, t2, t3, t4⟩ := t
  obtain ⟨u0, u1, u2, u3, u4⟩ := u
  have hp : Try.prog.stoodInHeld 38 = false := by kernel_rfl
  have hi := fun (d : Nat) (a b : Int) (w : World) => run_equalIn_int (P := Try.prog) w d 3 .i64 .i64 a b Try.underlying3
  have hb := fun (d : Nat) (a b : Bool) (w : World) => run_equalIn_bool' (P := Try.prog) w d 4 a b Try.underlying4
  simp [go_sem, hp, hi, hb]
  by_cases e0 : t0 = u0 <;> by_cases e1 : t1 = u1 <;> by_cases e2 : t2 = u2 <;> by_cases e3 : t3 = u3 <;> by_cases e4 : t4 = u4 <;> simp [e0, e1, e2, e3, e4]
theorem tneq_run (t u : Tenant) (w : World) : (binOp .neq 38 t.agg u.agg).run Try.prog w = .ok (.bool (!decide (t = u))) w := by
  rw [run_neq_struct, teq_run]; rfl
set_option maxHeartbeats 1000000 in
theorem same_any (ts us : List Tenant) (a b : Option Addr) (n c m d : Nat) (w : World) (hn : ts.length = n) (hm : us.length = m) (hl : ts.length ≤ maxLen) (hl2 : us.length ≤ maxLen) (hr : TRow w a ts) (hs : TRow w b us) :
    Calls Try.prog 11 #[.slice a n c, .slice b m d] w fun e w' => e = .returned (.bool (decide (ts = us))) ∧ Below w.heap.size w w' := by
  subst hn; subst hm
  have hl3 := lt_maxLen hl
  have hl4 := lt_maxLen hl2
  by_cases hlen : ts.length = us.length
  · have HLEN := Lib.hid hlen
    rw [hlen]
    clear hlen hl hl2 hl3
    have HNEQ := Lib.hid tneq_run
    go_enter Try.func11, Try.ntmps11
    go_wp2
    go_loopw [5] (fun i wr => ∃ k : Nat, k ≤ us.length ∧ i = .int .i64 k ∧ ts.take k = us.take k ∧ Below w.heap.size w wr) (fun i _ => us.length - (intOf i).toNat)
    case atStart => exact ⟨0, by omega, rfl, rfl, Below.refl _ _⟩
    case round =>
      obtain ⟨k, hk, rfl, htk, hb⟩ := hrel
      have HTK := Lib.hid htk
      clear htk
      by_cases hlt : k < us.length
      · have hlt2 : k < ts.length := by rw [HLEN.out]; exact hlt
        obtain ⟨b1, o1, rfl, hcs⟩ := hr.at hlt2
        obtain ⟨h0, h1, h2, h3, h4⟩ := hcs _ hb
        obtain ⟨b2, o2, rfl, hds⟩ := hs.at hlt
        obtain ⟨g0, g1, g2, g3, g4⟩ := hds _ hb
        clear hcs hds
        have hneq := fun w => HNEQ.out ts[k] us[k] w
        cases he : decide (ts[k] = us[k]) with
        | true =>
          have HE := Lib.hid (of_decide_eq_true he)
          rw [he] at hneq
          clear he
          go_wp2
          go_quiet (fail)
          go_wp2
          go_roundw
          case rel => exact ⟨k + 1, by omega, by go_num, by rw [List.take_succ_eq_append_getElem hlt2, List.take_succ_eq_append_getElem hlt, HTK.out, HE.out], below_drewN hb _⟩
          case measure => simp [intOf]; omega
        | false =>
          have HE := Lib.hid (of_decide_eq_false he)
          rw [he] at hneq
          clear he
          go_wp2
          go_quiet (fail)
          go_wp2
          go_returns
          exact ⟨ret_bool (decide_eq_false (fun h => HE.out (by subst h; rfl))).symm, below_drewN hb _⟩
      · go_wp2
        go_returns
        have h := HTK.out
        rw [List.take_of_length_le (by rw [HLEN.out]; omega), List.take_of_length_le (by omega)] at h
        exact ⟨ret_bool (decide_eq_true h).symm, hb⟩
  · have hne : ((ts.length : Int) != (us.length : Int)) = true := by simp; omega
    have HD : Hid (decide (ts = us) = false) := decide_eq_false (fun h => hlen (by rw [h]))
    generalize decide (ts = us) = res at HD ⊢
    have hlen2 : ¬ ts.length = us.length := hlen
    clear hlen
    go_enter Try.func11, Try.ntmps11
    go_wp2
    go_returns
    exact ⟨ret_bool HD.out.symm, Below.refl _ _⟩
theorem great_any (a : Option Addr) (n c : Nat) (w : World) (b : Bool) (hb : decide (60 < n) = b) :
    Calls Try.prog 7 #[.slice a n c] w fun e w' => e = .returned (.bool b) ∧ w = w' := by
  cases b
  · have h : ¬ 60 < n := of_decide_eq_false hb
    clear hb
    go_enter Try.func7, Try.ntmps7
    go_wp2
    go_returns
    exact ⟨ret_bool (by simp; omega), rfl⟩
  · have h : 60 < n := of_decide_eq_true hb
    clear hb
    go_enter Try.func7, Try.ntmps7
    go_wp2
    go_returns
    exact ⟨ret_bool (by simp; omega), rfl⟩
end Go.Proofs.Ytnpbajmpenpnbaa
