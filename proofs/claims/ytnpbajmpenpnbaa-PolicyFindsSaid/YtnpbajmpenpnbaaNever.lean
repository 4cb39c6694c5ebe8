import Derived.Test.YtnpbajmpenpnbaaPolNever
import Derived.Test.YtnpbajmpenpnbaaLawPuts
namespace Go.Proofs.Ytnpbajmpenpnbaa
open Go.ChangeShapes Go.WideShapes Go.ChangeAt Go.RowKit

set_option maxHeartbeats 1000000 in
theorem bucket_any (ts : List Tenant) (a : Option Addr) (n c : Nat) (id : Int) (w : World) (hn : ts.length = n) (hl : ts.length ≤ maxLen) (hr : TRow w a ts) :
    Calls Try.prog 18 #[.slice a n c, .int .i64 id] w fun e w' => e = .returned (.int .i64 (bucketL ts id)) ∧ Below w.heap.size w w' := by
  subst hn
  have hl2 := lt_maxLen hl
  have HB : ∀ k (hk : k < ts.length), (∀ j (h : j < ts.length), j < k → (ts[j].id == id) = false) → (ts[k].id == id) = true → bucketL ts id = ts[k].bucket := fun k hk => bucketL_take hk
  have HN : (∀ j (h : j < ts.length), (ts[j].id == id) = false) → bucketL ts id = 0 := bucketL_none
  generalize bucketL ts id = res at HB HN ⊢
  have HB2 := Lib.hid HB
  have HN2 := Lib.hid HN
  clear HB HN
  go_enter Try.func18, Try.ntmps18
  go_wp2
  go_loopw [5] (fun i wr => ∃ k : Nat, k ≤ ts.length ∧ i = .int .i64 k ∧ (∀ j (h : j < ts.length), j < k → (ts[j].id == id) = false) ∧ Below w.heap.size w wr) (fun i _ => ts.length - (intOf i).toNat)
  case atStart => exact ⟨0, by omega, rfl, by omega, Below.refl _ _⟩
  case round =>
    obtain ⟨k, hk, rfl, hno, hb⟩ := hrel
    have HNO := Lib.hid hno
    clear hno
    by_cases hlt : k < ts.length
    · obtain ⟨b, o, rfl, hcs⟩ := hr.at hlt
      obtain ⟨h0, h1, h2, h3, h4⟩ := hcs _ hb
      clear hcs
      cases hp : ts[k].id == id with
      | true =>
        have HP := Lib.hid hp
        go_wp2
        go_returns
        exact ⟨ret_int (HB2.out k hlt HNO.out HP.out).symm, hb⟩
      | false =>
        have HP := Lib.hid hp
        go_wp2
        go_roundw
        case rel => exact ⟨k + 1, by omega, by go_num, fun j h hj => by rcases Nat.lt_succ_iff_lt_or_eq.1 hj with h1 | rfl; exact HNO.out j h h1; exact HP.out, hb⟩
        case measure => simp [intOf]; omega
    · go_wp2
      go_returns
      exact ⟨ret_int (HN2.out fun j h => HNO.out j h (by omega)).symm, hb⟩
end Go.Proofs.Ytnpbajmpenpnbaa
