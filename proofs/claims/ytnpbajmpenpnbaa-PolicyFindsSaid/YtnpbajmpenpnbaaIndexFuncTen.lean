/- slices.IndexFunc: the place of the first that is so. -/
import Derived.Test.YtnpbajmpenpnbaaTenLay
import Derived.Test.YtnpbajmpenpnbaaIdx
namespace Go.Proofs.Ytnpbajmpenpnbaa
open Go.ChangeShapes Go.WideShapes Go.ChangeAt Go.RowKit

set_option maxHeartbeats 1000000 in
theorem indexFuncTen (xs : List Tenant) (a : Option Addr) (n c : Nat) (fid : FuncId) (cap : Array Value) (p : Tenant → Bool) (w : World) (hn : xs.length = n) (hl : n ≤ maxLen) (hr : LRow layTen w a xs)
    (hcf : ∀ (args : Array Value) (w : World), (callFunc fid args).run Try.prog w = .ok (.enter fid args) w)
    (hf : ∀ x ∈ xs, ∀ w', Below w.heap.size w w' → Calls Try.prog fid (#[(layTen).val x] ++ cap) w' fun e w'' => e = .returned (.bool (p x)) ∧ Below w'.heap.size w' w'') :
    Calls Try.prog 51 #[.slice a n c, .func (.func fid) #[] cap] w fun e w' => e = .returned (.int .i64 (idxL p xs)) ∧ Below w.heap.size w w' := by
  subst hn
  have hl2 := lt_maxLen hl
  have HI := Lib.hid (fun k (hk : k < xs.length) => idxL_some (p := p) hk)
  have HN := Lib.hid (idxL_none (p := p) (xs := xs))
  have HF := Lib.hid hf
  generalize idxL p xs = res at HI HN ⊢
  clear hf
  go_enter Try.func51, Try.ntmps51
  go_wp2
  go_loopw [8] (fun i wr => ∃ k : Nat, k ≤ xs.length ∧ i = .int .i64 k ∧ (∀ j (h : j < xs.length), j < k → p xs[j] = false) ∧ Below w.heap.size w wr) (fun i _ => xs.length - (intOf i).toNat)
  case atStart => exact ⟨0, by omega, rfl, by omega, Below.refl _ _⟩
  case round =>
    obtain ⟨k, hk, rfl, hno, hb⟩ := hrel
    have HNO := Lib.hid hno
    clear hno
    by_cases hlt : k < xs.length
    · obtain ⟨b, o, rfl, hcs⟩ := hr.range hlt
      have hrange := Lib.hid (hcs _ hb)
      have HF1 := Lib.hid (HF.out xs[k] (List.getElem_mem hlt) wr hb)
      clear hcs
      cases hp : p xs[k] with
      | true =>
        go_wp2_with (first
          | (refine wpList_load_lay layTen rfl _ rfl b (o + k * (layTen).size) rfl _ hrange.out ?_)
          | (refine HF1.out.mono ?_; rw [hp]; rintro e w2 ⟨rfl, hb2⟩))
        go_returns
        exact ⟨ret_int (HI.out k hlt HNO.out hp).symm, hb.trans (hb2.mono hb.size)⟩
      | false =>
        go_wp2_with (first
          | (refine wpList_load_lay layTen rfl _ rfl b (o + k * (layTen).size) rfl _ hrange.out ?_)
          | (refine HF1.out.mono ?_; rw [hp]; rintro e w2 ⟨rfl, hb2⟩))
        go_roundw
        case rel => exact ⟨k + 1, by omega, by go_num, fun j h hj => by rcases Nat.lt_succ_iff_lt_or_eq.1 hj with h1 | rfl; exact HNO.out j h h1; exact hp, hb.trans (hb2.mono hb.size)⟩
        case measure => simp [intOf]; omega
    · go_wp2
      go_returns
      exact ⟨ret_int (HN.out fun j h => HNO.out j h (by omega)).symm, hb⟩
end Go.Proofs.Ytnpbajmpenpnbaa
