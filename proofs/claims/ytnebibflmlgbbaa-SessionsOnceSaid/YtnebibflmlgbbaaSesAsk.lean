import Derived.Test.YtnebibflmlgbbaaSesFind
namespace Go.Proofs.Ytnebibflmlgbbaa
open Go.ChangeShapes Go.WideShapes Go.ChangeAt Go.RowKit

def mayS (l : List Session) (c n : Int) : Bool := sessOk l && (decide (1 ≤ c) && (decide (c ≤ 16) && decide (1 ≤ n)))
def lastS (l : List Session) (id : Int) : Int := if sessOk l = true then (findS l id).1.number else 0
def askS (l : List Session) (c n : Int) : Ans × Bool × Int :=
  if mayS l c n = false then (Ans.err 0, false, 2) else if n < (findS l c).1.number then (Ans.err 0, false, 150) else if n = (findS l c).1.number then ((findS l c).1.answer, false, 0) else (Ans.err 0, true, 0)

set_option maxHeartbeats 2000000 in
theorem may_ses (l : List Session) (a : Option Addr) (n c : Nat) (id num : Int) (w : World) (hn : l.length = n) (hl : n ≤ maxLen) (hr : LRow laySes w a l) :
    Calls Try.prog 17 #[.slice a n c, .int .i64 id, .int .i64 num] w fun e w' => e = .returned (.bool (mayS l id num)) ∧ Below w.heap.size w w' := by
  have HM : Hid (mayS l id num = (sessOk l && (decide (1 ≤ id) && (decide (id ≤ 16) && decide (1 ≤ num))))) := rfl
  generalize mayS l id num = res at HM ⊢
  cases hs : sessOk l <;> cases h1 : decide (1 ≤ id) <;> cases h2 : decide (id ≤ 16)
  all_goals
    have HS := Lib.hid hs
    rw [hs, h1, h2] at HM
    clear hs
    go_enter Try.func17, Try.ntmps17
    go_wp2_with (go_at_call 10; ((with_reducible refine (check_ses l _ _ _ _ hn hl hr).mono ?_); rw [HS.out]; rintro e w2 ⟨rfl, hb⟩))
    go_returns
    exact ⟨ret_bool (by rw [HM.out]; simp), hb⟩
set_option maxHeartbeats 2000000 in
theorem refmay_ses (l : List Session) (a : Option Addr) (n c : Nat) (id num : Int) (w : World) (hn : l.length = n) (hl : n ≤ maxLen) (hr : LRow laySes w a l) :
    Calls Try.prog 19 #[.slice a n c, .int .i64 id, .int .i64 num] w fun e w' => e = .returned (.bool (mayS l id num)) ∧ Below w.heap.size w w' := by
  have HM : Hid (mayS l id num = (sessOk l && (decide (1 ≤ id) && (decide (id ≤ 16) && decide (1 ≤ num))))) := rfl
  generalize mayS l id num = res at HM ⊢
  cases hs : sessOk l <;> cases h1 : decide (1 ≤ id) <;> cases h2 : decide (id ≤ 16)
  all_goals
    have HS := Lib.hid hs
    rw [hs, h1, h2] at HM
    clear hs
    go_enter Try.func19, Try.ntmps19
    go_wp2_with (go_at_call 11; ((with_reducible refine (refcheck_ses l _ _ _ _ hn hl hr).mono ?_); rw [HS.out]; rintro e w2 ⟨rfl, hb⟩))
    go_returns
    exact ⟨ret_bool (by rw [HM.out]; simp), hb⟩
theorem last_ses (l : List Session) (a : Option Addr) (n c : Nat) (id : Int) (w : World) (hn : l.length = n) (hl : n ≤ 1000000) (hr : LRow laySes w a l) (hid : (Lit.int .i64 id).wf = true) :
    Calls Try.prog 12 #[.slice a n c, .int .i64 id] w fun e w' => e = .returned (.int .i64 (lastS l id)) ∧ Below w.heap.size w w' := by
  have HL : Hid (lastS l id = if sessOk l = true then (findS l id).1.number else 0) := rfl
  generalize lastS l id = res at HL ⊢
  have hm := le_maxLen (Nat.le_trans hl (by decide) : n ≤ 1048576)
  cases hs : sessOk l with
  | false =>
    have HS := Lib.hid hs
    rw [hs] at HL
    clear hs
    go_enter Try.func12, Try.ntmps12
    go_wp2_with (go_at_call 10; ((with_reducible refine (check_ses l _ _ _ _ hn hm hr).mono ?_); rw [HS.out]; rintro e w2 ⟨rfl, hb⟩))
    go_returns
    exact ⟨ret_int (by rw [HL.out]; rfl), hb⟩
  | true =>
    have HS := Lib.hid hs
    rw [hs] at HL
    rcases hf : findS l id with ⟨⟨sc, sn, se, sr, sb, sl, sz⟩, ok⟩
    rw [hf] at HL
    have HF := Lib.hid hf
    have HID := Lib.hid hid
    clear hs hf hid
    go_enter Try.func12, Try.ntmps12
    go_wp2_with (first
      | (go_at_call 10; ((with_reducible refine (check_ses l _ _ _ _ hn hm hr).mono ?_); rw [HS.out]; rintro e w2 ⟨rfl, hb⟩))
      | (go_at_call 18; ((with_reducible refine (find_ses l _ _ _ _ _ hn hl (LRow.below hr (by repeat' (first | (with_reducible exact Below.refl _ _) | (with_reducible assumption) | (with_reducible refine Below.drew ?_) | (with_reducible refine Below.more ?_ _) | (with_reducible refine Below.put ?_ ?_ _) | (with_reducible refine Below.next ?_ (by with_reducible assumption)) | (with_reducible exact Nat.le_refl _) | (with_reducible refine Below.size' ?_) | omega))) HS.out HID.out).mono ?_); rw [HF.out]; rintro e w3 ⟨rfl, hb3⟩)))
    go_returns
    exact ⟨ret_int (by rw [HL.out]; rfl), (by repeat' (first | (with_reducible exact Below.refl _ _) | (with_reducible assumption) | (with_reducible refine Below.drew ?_) | (with_reducible refine Below.more ?_ _) | (with_reducible refine Below.put ?_ ?_ _) | (with_reducible refine Below.next ?_ (by with_reducible assumption)) | (with_reducible exact Nat.le_refl _) | (with_reducible refine Below.size' ?_) | omega))⟩
set_option maxHeartbeats 1000000 in
theorem reffind_ses (l : List Session) (a : Option Addr) (n c : Nat) (id : Int) (w : World) (hn : l.length = n) (hl : n ≤ maxLen) (hr : LRow laySes w a l) :
    Calls Try.prog 20 #[.slice a n c, .int .i64 id] w fun e w' => e = .returned (.int .i64 (idxL (fun s => s.client == id) l)) ∧ Below w.heap.size w w' := by
  subst hn
  have hl2 := lt_maxLen hl
  have HI := Lib.hid (fun k (hk : k < l.length) => idxL_some (p := fun s : Session => s.client == id) hk)
  have HN := Lib.hid (idxL_none (p := fun s : Session => s.client == id) (xs := l))
  generalize idxL (fun s : Session => s.client == id) l = res at HI HN ⊢
  go_enter Try.func20, Try.ntmps20
  go_wp2
  go_loopw [5] (fun i wr => ∃ k : Nat, k ≤ l.length ∧ i = .int .i64 k ∧ Hid (∀ j (h : j < l.length), j < k → (l[j].client == id) = false) ∧ Below w.heap.size w wr) (fun i _ => l.length - (intOf i).toNat)
  case atStart => exact ⟨0, by omega, rfl, fun _ _ h => by omega, Below.refl _ _⟩
  case round =>
    obtain ⟨k, hk, rfl, HNO, hb⟩ := hrel
    by_cases hlt : k < l.length
    · obtain ⟨b, o, rfl, hcs⟩ := atSes hr hlt
      obtain ⟨h0, _⟩ := hcs _ hb
      clear hcs
      have HI1 := Lib.hid (HI.out k hlt HNO.out)
      have HNX : Hid ((l[k].client == id) = false → ∀ j (h : j < l.length), j < k + 1 → (l[j].client == id) = false) := fun h j hj hjk => by
        rcases Nat.lt_succ_iff_lt_or_eq.1 hjk with h1 | rfl
        · exact HNO.out j hj h1
        · exact h
      generalize l[k] = x at h0 HI1 HNX
      cases hp : x.client == id with
      | true =>
        have HO := Lib.hid (HI1.out hp)
        go_wp2
        go_returns
        exact ⟨ret_int HO.out.symm, hb⟩
      | false =>
        have HO := Lib.hid (HNX.out hp)
        go_wp2
        go_roundw
        case rel => exact ⟨k + 1, by omega, by go_num, HO.out, hb⟩
        case measure => simp [intOf]; omega
    · obtain rfl : k = l.length := by omega
      have HO := Lib.hid (HN.out fun j h => HNO.out j h h)
      go_wp2
      go_returns
      exact ⟨ret_int HO.out.symm, hb⟩
end Go.Proofs.Ytnebibflmlgbbaa
