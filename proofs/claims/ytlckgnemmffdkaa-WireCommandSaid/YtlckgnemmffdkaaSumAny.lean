/- Sums of bytes: the program's and the document's. -/
import Derived.Test.YtlckgnemmffdkaaBase
import Derived.Test.YtlckgnemmffdkaaCrc
namespace Go.Proofs.Ytlckgnemmffdkaa
open Go.ChangeShapes Go.WideShapes Go.ChangeAt Go.RowKit
set_option maxRecDepth 100000

theorem u32_not {s : Nat} (h : s < 4294967296) : bits .xor .u32 IntKind.u32.max (s : Int) = ((4294967295 - s : Nat) : Int) := by
  have e := u32_xor_nat 4294967295 s (by omega) h
  rw [show IntKind.u32.max = ((4294967295 : Nat) : Int) from rfl, e]
  congr 1
  have hx : (BitVec.allOnes 32 ^^^ BitVec.ofNat 32 s).toNat = 4294967295 ^^^ s := by
    rw [BitVec.toNat_xor, BitVec.toNat_ofNat, Nat.mod_eq_of_lt h]; rfl
  rw [← hx, BitVec.allOnes_xor, BitVec.toNat_not, BitVec.toNat_ofNat, Nat.mod_eq_of_lt h]
theorem u32_xor_byte {r : Nat} (x : UInt8) (h : r < 4294967296) : bits .xor .u32 (r : Int) ((x.toNat : Int) % 4294967296) = ((r ^^^ x.toNat : Nat) : Int) := by
  have hx := x.toNat_lt
  rw [show ((x.toNat : Int) % 4294967296) = ((x.toNat : Nat) : Int) from by omega]
  exact u32_xor_nat r x.toNat h (by omega)
theorem u32_step {r : Nat} (h : r < 4294967296) : bits .xor .u32 ((r : Int) / 2) (bits .and .u32 3988292384 (-bits .and .u32 (r : Int) 1 % 4294967296)) = ((crcBit r : Nat) : Int) := by
  have e1 : bits .and .u32 (r : Int) 1 = ((r &&& 1 : Nat) : Int) := u32_and_nat r 1 h (by omega)
  rw [e1, Nat.and_one_is_mod]
  unfold crcBit
  rcases Nat.mod_two_eq_zero_or_one r with h2 | h2
  · rw [h2, if_neg (by omega)]
    have e2 : bits .and .u32 3988292384 (-((0 : Nat) : Int) % 4294967296) = 0 := by
      rw [show (-((0 : Nat) : Int) % 4294967296) = ((0 : Nat) : Int) from rfl]; exact (u32_and_nat 3988292384 0 (by omega) (by omega)).trans (by simp)
    rw [e2]
    exact (u32_xor_nat (r / 2) 0 (by omega) (by omega)).trans (by simp)
  · rw [h2, if_pos rfl]
    have e2 : bits .and .u32 3988292384 (-((1 : Nat) : Int) % 4294967296) = 3988292384 := by
      rw [show (-((1 : Nat) : Int) % 4294967296) = ((4294967295 : Nat) : Int) from rfl]; exact (u32_and_nat 3988292384 4294967295 (by omega) (by omega)).trans (by rfl)
    rw [e2]
    exact u32_xor_nat (r / 2) 3988292384 (by omega) (by omega)
theorem u32_odd {r : Nat} (h : r < 4294967296) (h2 : r % 2 = 1) : bits .and .u32 (r : Int) 1 = 1 := by
  have e1 : bits .and .u32 (r : Int) 1 = ((r &&& 1 : Nat) : Int) := u32_and_nat r 1 h (by omega)
  rw [e1, Nat.and_one_is_mod, h2]; rfl
theorem u32_even {r : Nat} (h : r < 4294967296) (h2 : r % 2 = 0) : bits .and .u32 (r : Int) 1 = 0 := by
  have e1 : bits .and .u32 (r : Int) 1 = ((r &&& 1 : Nat) : Int) := u32_and_nat r 1 h (by omega)
  rw [e1, Nat.and_one_is_mod, h2]; rfl

set_option maxHeartbeats 400000 in
theorem more_any (z : Int) (s : Nat) (a : Option Addr) (l : List UInt8) (n c : Nat) (w : World) (hn : l.length = n) (hz : z = (s : Int)) (h1 : s < 4294967296) (hl : l.length ≤ maxLen) (hr : RowB w a l) :
    Calls Try.prog 76 #[.int .u32 z, .slice a n c] w fun e w' => e = .returned (.int .u32 (sumMore s l : Nat)) ∧ w = w' := by
  subst hz hn
  unfold maxLen at hl
  go_enter Try.func76, Try.ntmps76
  go_wp2
  go_loop [5, 12] (fun r i => ∃ k : Nat, k ≤ l.length ∧ i = .int .i64 k ∧ r = .int .u32 (crcMore (4294967295 - s) (l.take k) : Nat)) (fun _ i => l.length - (intOf i).toNat)
  case atStart => exact ⟨0, by omega, rfl, val_int (by rw [u32_not h1]; simp [crcMore])⟩
  case round =>
    obtain ⟨k, hk, rfl, rfl⟩ := hrel
    by_cases hlt : k < l.length
    · obtain ⟨b, o, rfl, hcs⟩ := hr.at hlt
      have hcell := hcs k hlt
      have hr0 := crcMore_lt (l.take k) (r := 4294967295 - s) (by omega)
      have hk8 := hlt
      clear hcs
      go_wp2
      go_loop [5, 20] (fun r i => ∃ j : Nat, j ≤ 8 ∧ i = .int .i64 j ∧ r = .int .u32 (crcBits j (crcMore (4294967295 - s) (l.take k) ^^^ l[k].toNat) : Nat)) (fun _ i => 8 - (intOf i).toNat)
      case atStart => exact ⟨0, by omega, rfl, val_int (u32_xor_byte _ hr0)⟩
      case round =>
        obtain ⟨j, hj, rfl, rfl⟩ := hrel
        by_cases hlt : j < 8
        · go_wp2
          go_round
          case rel => exact ⟨j + 1, by omega, by go_num, val_int (by rw [u32_step (crcBits_lt j (xor_byte_lt _ hr0)), crcBits_succ])⟩
          case measure => simp [intOf]; omega
        · go_wp2
          go_round
          case rel => exact ⟨k + 1, by omega, by go_num, val_int (by rw [crcMore_take _ hk8, show j = 8 from by omega]; rfl)⟩
          case measure => simp [intOf]; omega
    · have hr0 := crcMore_lt (l.take k) (r := 4294967295 - s) (by omega)
      go_wp2
      go_ret
      exact ⟨ret_int (by rw [u32_not hr0, sumMore, List.take_of_length_le (by omega)]), rfl⟩
set_option maxHeartbeats 400000 in
theorem refmore_any (z : Int) (s : Nat) (a : Option Addr) (l : List UInt8) (n c : Nat) (w : World) (hn : l.length = n) (hz : z = (s : Int)) (h1 : s < 4294967296) (hl : l.length ≤ maxLen) (hr : RowB w a l) :
    Calls Try.prog 77 #[.int .u32 z, .slice a n c] w fun e w' => e = .returned (.int .u32 (sumMore s l : Nat)) ∧ w = w' := by
  subst hz hn
  unfold maxLen at hl
  go_enter Try.func77, Try.ntmps77
  go_wp2
  go_loop [5, 6] (fun r i => ∃ k : Nat, k ≤ l.length ∧ i = .int .i64 k ∧ r = .int .u32 (crcMore (4294967295 - s) (l.take k) : Nat)) (fun _ i => l.length - (intOf i).toNat)
  case atStart => exact ⟨0, by omega, rfl, val_int (by rw [u32_not h1]; simp [crcMore])⟩
  case round =>
    obtain ⟨k, hk, rfl, rfl⟩ := hrel
    have hr0 := crcMore_lt (l.take k) (r := 4294967295 - s) (by omega)
    by_cases hlt : k < l.length
    · obtain ⟨b, o, rfl, hcs⟩ := hr.at hlt
      have hcell := hcs k hlt
      have hk8 := hlt
      clear hcs
      go_wp2
      go_loop [5, 7] (fun r i => ∃ j : Nat, j ≤ 8 ∧ i = .int .i64 j ∧ r = .int .u32 (crcBits j (crcMore (4294967295 - s) (l.take k) ^^^ l[k].toNat) : Nat)) (fun _ i => 8 - (intOf i).toNat)
      case atStart => exact ⟨0, by omega, rfl, val_int (u32_xor_byte _ hr0)⟩
      case round =>
        obtain ⟨j, hj, rfl, rfl⟩ := hrel
        by_cases hlt : j < 8
        · have hx := crcBits_lt j (xor_byte_lt l[k] hr0)
          rcases Nat.mod_two_eq_zero_or_one (crcBits j (crcMore (4294967295 - s) (l.take k) ^^^ l[k].toNat)) with h2 | h2
          · have e1 := u32_even hx h2
            have H2 := Lib.hid h2
            clear h2
            go_wp2
            go_round
            case rel => exact ⟨j + 1, by omega, by go_num, val_int (by rw [crcBits_succ, crcBit, if_neg (by have := H2.out; omega)]; rfl)⟩
            case measure => simp [intOf]; omega
          · have e1 := u32_odd hx h2
            have H2 := Lib.hid h2
            clear h2
            go_wp2
            go_round
            case rel => exact ⟨j + 1, by omega, by go_num, val_int (by rw [crcBits_succ, crcBit, if_pos H2.out]; exact u32_xor_nat (_ / 2) 3988292384 (by omega) (by omega))⟩
            case measure => simp [intOf]; omega
        · go_wp2
          go_round
          case rel => exact ⟨k + 1, by omega, by go_num, val_int (by rw [crcMore_take _ hk8, show j = 8 from by omega]; rfl)⟩
          case measure => simp [intOf]; omega
    · go_wp2
      go_ret
      exact ⟨ret_int (by rw [u32_not hr0, sumMore, List.take_of_length_le (by omega)]), rfl⟩

set_option maxHeartbeats 400000 in
theorem sum_any (a : Option Addr) (l : List UInt8) (n c : Nat) (w : World) (hn : l.length = n) (hl : l.length ≤ maxLen) (hr : RowB w a l) :
    Calls Try.prog 41 #[.slice a n c] w fun e w' => e = .returned (.int .u32 (sumMore 0 l : Nat)) ∧ w = w' := by
  subst hn
  go_enter Try.func41, Try.ntmps41
  go_wp2_with (go_at_call 76; refine (more_any _ 0 _ l _ _ _ rfl rfl (by omega) hl hr).mono ?_; rintro e w' ⟨rfl, rfl⟩)
  go_ret
  exact ⟨rfl, rfl⟩

set_option maxHeartbeats 400000 in
theorem refsum_any (a : Option Addr) (l : List UInt8) (n c : Nat) (w : World) (hn : l.length = n) (hl : l.length ≤ maxLen) (hr : RowB w a l) :
    Calls Try.prog 43 #[.slice a n c] w fun e w' => e = .returned (.int .u32 (sumMore 0 l : Nat)) ∧ w = w' := by
  subst hn
  go_enter Try.func43, Try.ntmps43
  go_wp2_with (go_at_call 77; refine (refmore_any _ 0 _ l _ _ _ rfl rfl (by omega) hl hr).mono ?_; rintro e w' ⟨rfl, rfl⟩)
  go_ret
  exact ⟨rfl, rfl⟩
end Go.Proofs.Ytlckgnemmffdkaa
