import Derived.Test.YtnebibflmlgbbaaSesKeep
import Derived.Test.YtnebibflmlgbbaaSesAsk2
namespace Go.Proofs.Ytnebibflmlgbbaa
open Go.ChangeShapes Go.WideShapes Go.ChangeAt Go.RowKit

def keepS (l : List Session) (c n : Int) (a : Ans) : List Session × Int :=
  if mayS l c n = false then ([], 2) else if n ≤ lastS l c then ([], 150) else (insK Session.client ⟨c, n, a⟩ l, 0)
def RetKeep (w : World) (r : List Session × Int) (e : Ending) (w' : World) : Prop :=
  ∃ a c, e = .returned (.tuple #[.slice a r.1.length c, .int .i64 r.2]) ∧ r.1.length ≤ c ∧ c ≤ maxLen ∧ (a = none → c = 0) ∧ LRow laySes w' a r.1 ∧ Below w.heap.size w w'

set_option maxHeartbeats 4000000 in
theorem keep_ses (l : List Session) (a : Option Addr) (n c : Nat) (id num : Int) (x : Ans) (w : World) (hn : l.length = n) (hl : n ≤ 10000) (hc : a = none → c = 0) (hnc : n ≤ c) (hr : LRow laySes w a l) :
    Calls Try.prog 14 #[.slice a n c, .int .i64 id, .int .i64 num, x.agg] w (RetKeep w (keepS l id num x)) := by
  have HA : Hid (keepS l id num x = if mayS l id num = false then ([], 2) else if num ≤ lastS l id then ([], 150) else (insK Session.client ⟨id, num, x⟩ l, 0)) := rfl
  generalize keepS l id num x = res at HA ⊢
  have hm := le_maxLen (Nat.le_trans hl (by decide) : n ≤ 1048576)
  obtain ⟨xe, xr, xb, xl, xz⟩ := x
  cases hs : mayS l id num with
  | false =>
    have HS := Lib.hid hs
    rw [hs, if_pos rfl] at HA
    clear hs
    go_enter Try.func14, Try.ntmps14
    go_wp2_with (first
      | (go_at_call 17; ((with_reducible refine (may_ses l _ _ _ _ _ _ hn hm (LRow.below hr (by repeat' (first | (with_reducible exact Below.refl _ _) | (with_reducible assumption) | (with_reducible refine Below.drew ?_) | (with_reducible refine Below.more ?_ _) | (with_reducible refine Below.put ?_ ?_ _) | (with_reducible refine Below.next ?_ (by with_reducible assumption)) | (with_reducible exact Nat.le_refl _) | (with_reducible refine Below.size' ?_) | omega)))).mono ?_); rw [HS.out]; rintro e w2 ⟨rfl, hb⟩)))
    go_returns
    exact ⟨none, 0, by rw [HA.out]; rfl, by rw [HA.out]; exact Nat.le_refl _, Nat.zero_le _, fun _ => rfl, by rw [HA.out]; exact Row.nil _ _, (by repeat' (first | (with_reducible exact Below.refl _ _) | (with_reducible assumption) | (with_reducible refine Below.drew ?_) | (with_reducible refine Below.more ?_ _) | (with_reducible refine Below.put ?_ ?_ _) | (with_reducible refine Below.next ?_ (by with_reducible assumption)) | (with_reducible exact Nat.le_refl _) | (with_reducible refine Below.size' ?_) | omega))⟩
  | true =>
    have HS := Lib.hid hs
    obtain ⟨hs1, hi1, hi2, hn1⟩ := mayS_ok hs
    have HS1 := Lib.hid hs1
    have HID := Lib.hid (wf_small (n := id) (by omega) (by omega))
    rw [hs, if_neg (by simp)] at HA
    generalize hla : lastS l id = la at HA
    have HLA := Lib.hid hla
    clear hs hs1 hla
    by_cases h1 : num ≤ la
    · rw [if_pos h1] at HA
      go_enter Try.func14, Try.ntmps14
      go_wp2_with (first
        | (go_at_call 17; ((with_reducible refine (may_ses l _ _ _ _ _ _ hn hm (LRow.below hr (by repeat' (first | (with_reducible exact Below.refl _ _) | (with_reducible assumption) | (with_reducible refine Below.drew ?_) | (with_reducible refine Below.more ?_ _) | (with_reducible refine Below.put ?_ ?_ _) | (with_reducible refine Below.next ?_ (by with_reducible assumption)) | (with_reducible exact Nat.le_refl _) | (with_reducible refine Below.size' ?_) | omega)))).mono ?_); rw [HS.out]; rintro e w2 ⟨rfl, hb⟩))
        | (go_at_call 12; ((with_reducible refine (last_ses l _ _ _ _ _ hn (by omega) (LRow.below hr (by repeat' (first | (with_reducible exact Below.refl _ _) | (with_reducible assumption) | (with_reducible refine Below.drew ?_) | (with_reducible refine Below.more ?_ _) | (with_reducible refine Below.put ?_ ?_ _) | (with_reducible refine Below.next ?_ (by with_reducible assumption)) | (with_reducible exact Nat.le_refl _) | (with_reducible refine Below.size' ?_) | omega))) HID.out).mono ?_); rw [HLA.out]; rintro e w3 ⟨rfl, hb3⟩)))
      go_returns
      exact ⟨none, 0, by rw [HA.out]; rfl, by rw [HA.out]; exact Nat.le_refl _, Nat.zero_le _, fun _ => rfl, by rw [HA.out]; exact Row.nil _ _, (by repeat' (first | (with_reducible exact Below.refl _ _) | (with_reducible assumption) | (with_reducible refine Below.drew ?_) | (with_reducible refine Below.more ?_ _) | (with_reducible refine Below.put ?_ ?_ _) | (with_reducible refine Below.next ?_ (by with_reducible assumption)) | (with_reducible exact Nat.le_refl _) | (with_reducible refine Below.size' ?_) | omega))⟩
    · rw [if_neg h1] at HA
      go_enter Try.func14, Try.ntmps14
      go_wp2_with (first
        | (go_at_call 17; ((with_reducible refine (may_ses l _ _ _ _ _ _ hn hm (LRow.below hr (by repeat' (first | (with_reducible exact Below.refl _ _) | (with_reducible assumption) | (with_reducible refine Below.drew ?_) | (with_reducible refine Below.more ?_ _) | (with_reducible refine Below.put ?_ ?_ _) | (with_reducible refine Below.next ?_ (by with_reducible assumption)) | (with_reducible exact Nat.le_refl _) | (with_reducible refine Below.size' ?_) | omega)))).mono ?_); rw [HS.out]; rintro e w2 ⟨rfl, hb⟩))
        | (go_at_call 12; ((with_reducible refine (last_ses l _ _ _ _ _ hn (by omega) (LRow.below hr (by repeat' (first | (with_reducible exact Below.refl _ _) | (with_reducible assumption) | (with_reducible refine Below.drew ?_) | (with_reducible refine Below.more ?_ _) | (with_reducible refine Below.put ?_ ?_ _) | (with_reducible refine Below.next ?_ (by with_reducible assumption)) | (with_reducible exact Nat.le_refl _) | (with_reducible refine Below.size' ?_) | omega))) HID.out).mono ?_); rw [HLA.out]; rintro e w3 ⟨rfl, hb3⟩; have qx3 : Below (World.alloc w (.cells #[.int .i64 xe, .int .i64 xr, .int .i64 xb, .int .i64 xl, .int .i64 xz] 26)).heap.size (World.alloc w (.cells #[.int .i64 xe, .int .i64 xr, .int .i64 xb, .int .i64 xl, .int .i64 xz] 26)) w3 := (by repeat' (first | (with_reducible exact Below.refl _ _) | (with_reducible assumption) | (with_reducible refine Below.drew ?_) | (with_reducible refine Below.more ?_ _) | (with_reducible refine Below.put ?_ ?_ _) | (with_reducible refine Below.next ?_ (by with_reducible assumption)) | (with_reducible exact Nat.le_refl _) | (with_reducible refine Below.size' ?_) | omega)); have hx3 := own_cells qx3; have zx3 := own_frozen qx3; have sx3 := Below.boxed qx3; clear qx3))
        | (go_at_call 21; ((with_reducible refine (put_ses l ⟨id, num, ⟨xe, xr, xb, xl, xz⟩⟩ a _ _ _ hn hl hc hnc (LRow.below hr (by repeat' (first | (with_reducible exact Below.refl _ _) | (with_reducible assumption) | (with_reducible refine Below.drew ?_) | (with_reducible refine Below.more ?_ _) | (with_reducible refine Below.put ?_ ?_ _) | (with_reducible refine Below.next ?_ (by with_reducible assumption)) | (with_reducible exact Nat.le_refl _) | (with_reducible refine Below.size' ?_) | omega))) HS1.out hi1 hi2).mono ?_); rintro e w4 ⟨a4, c4, rfl, h1, h2, h3, h4, hb4⟩)))
      go_returns
      exact ⟨a4, c4, by rw [HA.out]; rfl, by rw [HA.out]; exact h1, h2, h3, by rw [HA.out]; exact h4, (by repeat' (first | (with_reducible exact Below.refl _ _) | (with_reducible assumption) | (with_reducible refine Below.drew ?_) | (with_reducible refine Below.more ?_ _) | (with_reducible refine Below.put ?_ ?_ _) | (with_reducible refine Below.next ?_ (by with_reducible assumption)) | (with_reducible exact Nat.le_refl _) | (with_reducible refine Below.size' ?_) | omega))⟩

set_option maxHeartbeats 1000000 in
theorem same_ses (l m : List Session) (a b : Option Addr) (n c k d : Nat) (w : World) (hn : l.length = n) (hm : m.length = k) (hl : n ≤ maxLen) (hl2 : k ≤ maxLen) (hr : LRow laySes w a l) (hs : LRow laySes w b m) :
    Calls Try.prog 16 #[.slice a n c, .slice b k d] w fun e w' => e = .returned (.bool (decide (l = m))) ∧ Below w.heap.size w w' := by
  subst hn; subst hm
  have hl3 := lt_maxLen hl
  have hl4 := lt_maxLen hl2
  by_cases hlen : l.length = m.length
  · have HLEN := Lib.hid hlen
    rw [hlen]
    clear hlen hl hl2 hl3
    have HNEQ := Lib.hid neqSes_run
    go_enter Try.func16, Try.ntmps16
    go_wp2
    go_loopw [5] (fun i wr => ∃ k : Nat, k ≤ m.length ∧ i = .int .i64 k ∧ Hid (l.take k = m.take k) ∧ Below w.heap.size w wr) (fun i _ => m.length - (intOf i).toNat)
    case atStart => exact ⟨0, by omega, rfl, rfl, Below.refl _ _⟩
    case round =>
      obtain ⟨k, hk, rfl, HTK, hb⟩ := hrel
      by_cases hlt : k < m.length
      · have hlt2 : k < l.length := by rw [HLEN.out]; exact hlt
        obtain ⟨b1, o1, rfl, hcs⟩ := atSes hr hlt2
        have hx := hcs _ hb
        obtain ⟨b2, o2, rfl, hds⟩ := atSes hs hlt
        have hy := hds _ hb
        clear hcs hds
        have hneq := fun w => HNEQ.out l[k] m[k] w
        cases he : decide (l[k] = m[k]) with
        | true =>
          have HE := Lib.hid (of_decide_eq_true he)
          rw [he] at hneq
          clear he
          go_wp2
          go_quiet (fail)
          go_wp2
          go_roundw
          case rel => exact ⟨k + 1, by omega, by go_num, by show _ = _; rw [List.take_succ_eq_append_getElem hlt2, List.take_succ_eq_append_getElem hlt, HTK.out, HE.out], below_drewN hb _⟩
          case measure => simp [intOf]; omega
        | false =>
          have HE := Lib.hid (of_decide_eq_false he)
          rw [he] at hneq
          clear he
          go_wp2
          go_quiet (fail)
          go_wp2
          go_returns
          exact ⟨ret_bool (decide_eq_false (fun h => HE.out (by subst h; rfl))).symm, below_drewN hb _⟩
      · go_wp2
        go_returns
        have h := HTK.out
        rw [List.take_of_length_le (by rw [HLEN.out]; omega), List.take_of_length_le (by omega)] at h
        exact ⟨ret_bool (decide_eq_true h).symm, hb⟩
  · have hne : ((l.length : Int) != (m.length : Int)) = true := by simp; omega
    have HD : Hid (decide (l = m) = false) := decide_eq_false (fun h => hlen (by rw [h]))
    generalize decide (l = m) = res at HD ⊢
    have hlen2 : ¬ l.length = m.length := hlen
    clear hlen
    go_enter Try.func16, Try.ntmps16
    go_wp2
    go_returns
    exact ⟨ret_bool HD.out.symm, Below.refl _ _⟩
end Go.Proofs.Ytnebibflmlgbbaa
