import Derived.Test.YtnebibflmlgbbaaSesLay
import Derived.Test.YtnebibflmlgbbaaChain
namespace Go.Proofs.Ytnebibflmlgbbaa
open Go.ChangeShapes Go.WideShapes Go.ChangeAt Go.RowKit

def sesGood (s : Session) : Bool := decide (s.client ≤ 16) && decide (1 ≤ s.number)
def sessOk (l : List Session) : Bool := chainOk Session.client sesGood 0 l
theorem sessOk_next {l : List Session} {k : Nat} (h : k < l.length) (hk : sessOk (l.take k) = true) (h1 : lastKey Session.client 0 (l.take k) < l[k].client) (h2 : l[k].client ≤ 16) (h3 : 1 ≤ l[k].number) : sessOk (l.take (k + 1)) = true := by
  unfold sessOk at *
  rw [chainOk_take h, hk]
  simp [sesGood, h1, h2, h3]
theorem sessOk_bad {l : List Session} {k : Nat} (h : k < l.length) (h1 : ¬ (lastKey Session.client 0 (l.take k) < l[k].client ∧ l[k].client ≤ 16 ∧ 1 ≤ l[k].number)) : sessOk l = false := by
  refine chainOk_bad h ?_
  unfold sesGood
  by_cases a : lastKey Session.client 0 (l.take k) < l[k].client <;> by_cases b : l[k].client ≤ 16 <;> by_cases c : 1 ≤ l[k].number <;> simp [a, b, c]
  exact h1 ⟨a, b, c⟩

set_option maxHeartbeats 1000000 in
theorem check_ses (l : List Session) (a : Option Addr) (n c : Nat) (w : World) (hn : l.length = n) (hl : n ≤ maxLen) (hr : LRow laySes w a l) :
    Calls Try.prog 10 #[.slice a n c] w fun e w' => e = .returned (.bool (sessOk l)) ∧ Below w.heap.size w w' := by
  subst hn
  have hl2 := lt_maxLen hl
  have HB := Lib.hid (fun k (h : k < l.length) => sessOk_bad h)
  have HT : Hid (sessOk (l.take l.length) = true → sessOk l = true) := fun h => by rw [List.take_length] at h; exact h
  have H0 : Hid (sessOk (l.take 0) = true) := rfl
  have HN := Lib.hid (fun k (h : k < l.length) => sessOk_next h)
  have HL := Lib.hid (fun k (h : k < l.length) => lastKey_take (key := Session.client) (a := 0) h)
  generalize hres : sessOk l = res at HB HT ⊢
  clear hres
  go_enter Try.func10, Try.ntmps10
  go_wp2
  go_loopw [3, 8] (fun la i wr => ∃ k : Nat, k ≤ l.length ∧ i = .int .i64 k ∧ la = .int .i64 (lastKey Session.client 0 (l.take k)) ∧ Hid (sessOk (l.take k) = true) ∧ Below w.heap.size w wr) (fun _ i _ => l.length - (intOf i).toNat)
  case atStart => exact ⟨0, by omega, rfl, rfl, H0, Below.refl _ _⟩
  case round =>
    obtain ⟨k, hk, rfl, rfl, hok, hb⟩ := hrel
    by_cases hlt : k < l.length
    · obtain ⟨b, o, rfl, hcs⟩ := atSes hr hlt
      have hx := hcs _ hb
      have HB1 := Lib.hid (HB.out k hlt)
      have HN1 := Lib.hid (HN.out k hlt hok.out)
      have HL1 := Lib.hid (HL.out k hlt)
      generalize l[k] = x at hx HB1 HN1 HL1
      generalize lastKey Session.client 0 (l.take k) = la at HB1 HN1 ⊢
      clear hcs
      by_cases hgo : la < x.client ∧ x.client ≤ 16 ∧ 1 ≤ x.number
      · obtain ⟨h1, h2, h3⟩ := hgo
        have HN2 := Lib.hid (HN1.out h1 h2 h3)
        go_wp2
        go_roundw
        case rel => exact ⟨k + 1, by omega, by go_num, by rw [HL1.out], HN2.out, (by repeat' (first | (with_reducible exact Below.refl _ _) | (with_reducible assumption) | (with_reducible refine Below.drew ?_) | (with_reducible refine Below.more ?_ _) | (with_reducible refine Below.put ?_ ?_ _) | (with_reducible refine Below.next ?_ (by with_reducible assumption)) | (with_reducible exact Nat.le_refl _) | (with_reducible refine Below.size' ?_) | omega))⟩
        case measure => simp [intOf]; omega
      · have HG := Lib.hid hgo
        have HO := Lib.hid (HB1.out hgo)
        clear hgo
        go_wp2
        all_goals first
          | (go_returns; exact ⟨ret_bool HO.out.symm, (by repeat' (first | (with_reducible exact Below.refl _ _) | (with_reducible assumption) | (with_reducible refine Below.drew ?_) | (with_reducible refine Below.more ?_ _) | (with_reducible refine Below.put ?_ ?_ _) | (with_reducible refine Below.next ?_ (by with_reducible assumption)) | (with_reducible exact Nat.le_refl _) | (with_reducible refine Below.size' ?_) | omega))⟩)
          | (exfalso; have := HG.out; omega)
    · obtain rfl : k = l.length := by omega
      have HO := Lib.hid (HT.out hok.out)
      go_wp2
      go_returns
      exact ⟨ret_bool HO.out.symm, hb⟩

set_option maxHeartbeats 2000000 in
theorem refcheck_ses (l : List Session) (a : Option Addr) (n c : Nat) (w : World) (hn : l.length = n) (hl : n ≤ maxLen) (hr : LRow laySes w a l) :
    Calls Try.prog 11 #[.slice a n c] w fun e w' => e = .returned (.bool (sessOk l)) ∧ Below w.heap.size w w' := by
  subst hn
  have hl2 := lt_maxLen hl
  have HB := Lib.hid (fun k (h : k < l.length) => sessOk_bad h)
  have HT : Hid (sessOk (l.take l.length) = true → sessOk l = true) := fun h => by rw [List.take_length] at h; exact h
  have H0 : Hid (sessOk (l.take 0) = true) := rfl
  have HN := Lib.hid (fun k (h : k < l.length) => sessOk_next h)
  have HL := Lib.hid (fun k (h : k < l.length) => lastKey_take (key := Session.client) (a := 0) h)
  have HGE : Hid (∀ k, sessOk (l.take k) = true → 0 ≤ lastKey Session.client 0 (l.take k)) := fun k h => lastKey_ge h
  generalize hres : sessOk l = res at HB HT ⊢
  clear hres
  go_enter Try.func11, Try.ntmps11
  go_wp2
  go_loopw [3] (fun i wr => ∃ k : Nat, k ≤ l.length ∧ i = .int .i64 k ∧ Hid (sessOk (l.take k) = true) ∧ Below w.heap.size w wr) (fun i _ => l.length - (intOf i).toNat)
  case atStart => exact ⟨0, by omega, rfl, H0, Below.refl _ _⟩
  case round =>
    obtain ⟨k, hk, rfl, hok, hb⟩ := hrel
    by_cases hlt : k < l.length
    · obtain ⟨b, o, rfl, hcs⟩ := atSes hr hlt
      obtain ⟨hx0, hx1, _⟩ := hcs _ hb
      have HB1 := Lib.hid (HB.out k hlt)
      have HN1 := Lib.hid (HN.out k hlt hok.out)
      have hge := HGE.out k hok.out
      cases k with
      | zero =>
        clear hcs
        have hla : lastKey Session.client 0 (l.take 0) = 0 := rfl
        rw [hla] at HB1 HN1
        generalize l[0] = x at hx0 hx1 HB1 HN1
        simp only [Nat.zero_mul, Nat.add_zero] at hx0 hx1
        clear hla hge
        by_cases h1 : x.client < 1
        · have HO := Lib.hid (HB1.out (by omega))
          have g1 : decide (x.client < 1) = true := decide_eq_true h1
          go_wp2
          go_quiet (fail)
          go_wp2
          go_returns
          exact ⟨ret_bool HO.out.symm, below_drewN hb _⟩
        have g1 : decide (x.client < 1) = false := decide_eq_false h1
        by_cases h2 : 16 < x.client
        · have HO := Lib.hid (HB1.out (by omega))
          have g2 : decide (16 < x.client) = true := decide_eq_true h2
          go_wp2
          go_quiet (fail)
          go_wp2
          go_returns
          exact ⟨ret_bool HO.out.symm, below_drewN hb _⟩
        have g2 : decide (16 < x.client) = false := decide_eq_false h2
        by_cases h3 : x.number < 1
        · have HO := Lib.hid (HB1.out (by omega))
          have g3 : decide (x.number < 1) = true := decide_eq_true h3
          go_wp2
          go_quiet (fail)
          go_wp2
          go_returns
          exact ⟨ret_bool HO.out.symm, below_drewN hb _⟩
        have g3 : decide (x.number < 1) = false := decide_eq_false h3
        have HN2 := Lib.hid (HN1.out (by omega) (by omega) (by omega))
        go_wp2
        go_quiet (fail)
        go_wp2
        go_roundw
        case rel => exact ⟨1, by omega, rfl, HN2.out, below_drewN hb _⟩
        case measure => simp [intOf]; omega
      | succ j =>
        have hjl : j < l.length := by omega
        obtain ⟨b2, o2, e2, hcs2⟩ := atSes hr hjl
        simp only [Option.some.injEq, Addr.mk.injEq, and_true] at e2
        obtain ⟨rfl, rfl⟩ := e2
        obtain ⟨hp0, _⟩ := hcs2 _ hb
        have hla := HL.out j hjl
        rw [hla] at HB1 HN1 hge
        generalize l[j + 1] = x at hx0 hx1 HB1 HN1
        generalize l[j] = p at hp0 HB1 HN1 hge
        clear hcs hcs2 hla
        have hw1 : IntKind.i64.wrap ((j : Int) + 1 - 1) = (j : Int) := by rw [IntKind.wrap_i64]; omega
        have g0 : decide (0 < (j : Int) + 1) = true := decide_eq_true (by omega)
        by_cases h1 : x.client < 1
        · have HO := Lib.hid (HB1.out (by omega))
          have g1 : decide (x.client < 1) = true := decide_eq_true h1
          go_wp2
          go_quiet (fail)
          go_wp2
          go_returns
          exact ⟨ret_bool HO.out.symm, below_drewN hb _⟩
        have g1 : decide (x.client < 1) = false := decide_eq_false h1
        by_cases h2 : 16 < x.client
        · have HO := Lib.hid (HB1.out (by omega))
          have g2 : decide (16 < x.client) = true := decide_eq_true h2
          go_wp2
          go_quiet (fail)
          go_wp2
          go_returns
          exact ⟨ret_bool HO.out.symm, below_drewN hb _⟩
        have g2 : decide (16 < x.client) = false := decide_eq_false h2
        by_cases h3 : x.number < 1
        · have HO := Lib.hid (HB1.out (by omega))
          have g3 : decide (x.number < 1) = true := decide_eq_true h3
          go_wp2
          go_quiet (fail)
          go_wp2
          go_returns
          exact ⟨ret_bool HO.out.symm, below_drewN hb _⟩
        have g3 : decide (x.number < 1) = false := decide_eq_false h3
        by_cases h4 : x.client ≤ p.client
        · have HO := Lib.hid (HB1.out (by omega))
          have g4 : decide (x.client ≤ p.client) = true := decide_eq_true h4
          go_wp2
          go_quiet (fail)
          go_wp2
          go_returns
          exact ⟨ret_bool HO.out.symm, below_drewN hb _⟩
        have g4 : decide (x.client ≤ p.client) = false := decide_eq_false h4
        have HN2 := Lib.hid (HN1.out (by omega) (by omega) (by omega))
        go_wp2
        go_quiet (fail)
        go_wp2
        go_roundw
        case rel => exact ⟨j + 1 + 1, by omega, by go_num, HN2.out, below_drewN hb _⟩
        case measure => simp [intOf]; omega
    · obtain rfl : k = l.length := by omega
      have HO := Lib.hid (HT.out hok.out)
      go_wp2
      go_returns
      exact ⟨ret_bool HO.out.symm, hb⟩
end Go.Proofs.Ytnebibflmlgbbaa
