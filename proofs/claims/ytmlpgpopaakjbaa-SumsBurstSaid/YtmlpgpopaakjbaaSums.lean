import Derived.Test.YtmlpgpopaakjbaaBase
import Derived.Test.YtmlpgpopaakjbaaCrc
namespace Go.Proofs.Ytmlpgpopaakjbaa
open Go.ChangeShapes Go.WideShapes Go.ChangeAt Go.RowKit

theorem u32_not {s : Nat} (h : s < 4294967296) : bits .xor .u32 IntKind.u32.max (s : Int) = ((4294967295 - s : Nat) : Int) := by
  have e := u32_xor_nat 4294967295 s (by omega) h
  rw [show IntKind.u32.max = ((4294967295 : Nat) : Int) from rfl, e]
  congr 1
  have hx : (BitVec.allOnes 32 ^^^ BitVec.ofNat 32 s).toNat = 4294967295 ^^^ s := by
    rw [BitVec.toNat_xor, BitVec.toNat_ofNat, Nat.mod_eq_of_lt h]; rfl
  rw [← hx, BitVec.allOnes_xor, BitVec.toNat_not, BitVec.toNat_ofNat, Nat.mod_eq_of_lt h]
theorem u32_xor_byte {r : Nat} (x : UInt8) (h : r < 4294967296) : bits .xor .u32 (r : Int) ((x.toNat : Int) % 4294967296) = ((r ^^^ x.toNat : Nat) : Int) := by
  have hx := x.toNat_lt
  rw [show ((x.toNat : Int) % 4294967296) = ((x.toNat : Nat) : Int) from by omega]
  exact u32_xor_nat r x.toNat h (by omega)
theorem u32_step {r : Nat} (h : r < 4294967296) : bits .xor .u32 ((r : Int) / 2) (bits .and .u32 3988292384 (-bits .and .u32 (r : Int) 1 % 4294967296)) = ((crcBit r : Nat) : Int) := by
  have e1 : bits .and .u32 (r : Int) 1 = ((r &&& 1 : Nat) : Int) := u32_and_nat r 1 h (by omega)
  rw [e1, Nat.and_one_is_mod]
  unfold crcBit
  rcases Nat.mod_two_eq_zero_or_one r with h2 | h2
  · rw [h2, if_neg (by omega)]
    have e2 : bits .and .u32 3988292384 (-((0 : Nat) : Int) % 4294967296) = 0 := by
      rw [show (-((0 : Nat) : Int) % 4294967296) = ((0 : Nat) : Int) from rfl]; exact (u32_and_nat 3988292384 0 (by omega) (by omega)).trans (by simp)
    rw [e2]
    exact (u32_xor_nat (r / 2) 0 (by omega) (by omega)).trans (by simp)
  · rw [h2, if_pos rfl]
    have e2 : bits .and .u32 3988292384 (-((1 : Nat) : Int) % 4294967296) = 3988292384 := by
      rw [show (-((1 : Nat) : Int) % 4294967296) = ((4294967295 : Nat) : Int) from rfl]; exact (u32_and_nat 3988292384 4294967295 (by omega) (by omega)).trans (by rfl)
    rw [e2]
    exact u32_xor_nat (r / 2) 3988292384 (by omega) (by omega)
theorem u32_odd {r : Nat} (h : r < 4294967296) (h2 : r % 2 = 1) : bits .and .u32 (r : Int) 1 = 1 := by
  have e1 : bits .and .u32 (r : Int) 1 = ((r &&& 1 : Nat) : Int) := u32_and_nat r 1 h (by omega)
  rw [e1, Nat.and_one_is_mod, h2]; rfl
theorem u32_even {r : Nat} (h : r < 4294967296) (h2 : r % 2 = 0) : bits .and .u32 (r : Int) 1 = 0 := by
  have e1 : bits .and .u32 (r : Int) 1 = ((r &&& 1 : Nat) : Int) := u32_and_nat r 1 h (by omega)
  rw [e1, Nat.and_one_is_mod, h2]; rfl
theorem ret_int {k : IntKind} {a b : Int} (h : a = b) : Ending.returned (.int k a) = .returned (.int k b) := by rw [h]
theorem val_int {k : IntKind} {a b : Int} (h : a = b) : Value.int k a = .int k b := by rw [h]

set_option maxHeartbeats 400000 in
theorem more_any (z : Int) (s : Nat) (a : Option Addr) (l : List UInt8) (n c : Nat) (w : World) (hn : l.length = n) (hz : z = (s : Int)) (h1 : s < 4294967296) (hl : l.length ≤ maxLen) (hr : RowB w a l) :
    Calls Try.prog 10 #[.int .u32 z, .slice a n c] w fun e w' => e = .returned (.int .u32 (sumMore s l : Nat)) ∧ w = w' := by
  subst hz hn
  unfold maxLen at hl
  go_enter Try.func10, Try.ntmps10
  go_wp2
  go_loop [5, 12] (fun r i => ∃ k : Nat, k ≤ l.length ∧ i = .int .i64 k ∧ r = .int .u32 (crcMore (4294967295 - s) (l.take k) : Nat)) (fun _ i => l.length - (intOf i).toNat)
  case atStart => exact ⟨0, by omega, rfl, val_int (by rw [u32_not h1]; simp [crcMore])⟩
  case round =>
    obtain ⟨k, hk, rfl, rfl⟩ := hrel
    by_cases hlt : k < l.length
    · obtain ⟨b, o, rfl, hcs⟩ := hr.at hlt
      have hcell := hcs k hlt
      have hr0 := crcMore_lt (l.take k) (r := 4294967295 - s) (by omega)
      have hk8 := hlt
      clear hcs
      go_wp2
      go_loop [5, 20] (fun r i => ∃ j : Nat, j ≤ 8 ∧ i = .int .i64 j ∧ r = .int .u32 (crcBits j (crcMore (4294967295 - s) (l.take k) ^^^ l[k].toNat) : Nat)) (fun _ i => 8 - (intOf i).toNat)
      case atStart => exact ⟨0, by omega, rfl, val_int (u32_xor_byte _ hr0)⟩
      case round =>
        obtain ⟨j, hj, rfl, rfl⟩ := hrel
        by_cases hlt : j < 8
        · go_wp2
          go_round
          case rel => exact ⟨j + 1, by omega, by go_num, val_int (by rw [u32_step (crcBits_lt j (xor_byte_lt _ hr0)), crcBits_succ])⟩
          case measure => simp [intOf]; omega
        · go_wp2
          go_round
          case rel => exact ⟨k + 1, by omega, by go_num, val_int (by rw [crcMore_take _ hk8, show j = 8 from by omega]; rfl)⟩
          case measure => simp [intOf]; omega
    · have hr0 := crcMore_lt (l.take k) (r := 4294967295 - s) (by omega)
      go_wp2
      go_ret
      exact ⟨ret_int (by rw [u32_not hr0, sumMore, List.take_of_length_le (by omega)]), rfl⟩
set_option maxHeartbeats 400000 in
theorem refmore_any (z : Int) (s : Nat) (a : Option Addr) (l : List UInt8) (n c : Nat) (w : World) (hn : l.length = n) (hz : z = (s : Int)) (h1 : s < 4294967296) (hl : l.length ≤ maxLen) (hr : RowB w a l) :
    Calls Try.prog 11 #[.int .u32 z, .slice a n c] w fun e w' => e = .returned (.int .u32 (sumMore s l : Nat)) ∧ w = w' := by
  subst hz hn
  unfold maxLen at hl
  go_enter Try.func11, Try.ntmps11
  go_wp2
  go_loop [5, 6] (fun r i => ∃ k : Nat, k ≤ l.length ∧ i = .int .i64 k ∧ r = .int .u32 (crcMore (4294967295 - s) (l.take k) : Nat)) (fun _ i => l.length - (intOf i).toNat)
  case atStart => exact ⟨0, by omega, rfl, val_int (by rw [u32_not h1]; simp [crcMore])⟩
  case round =>
    obtain ⟨k, hk, rfl, rfl⟩ := hrel
    have hr0 := crcMore_lt (l.take k) (r := 4294967295 - s) (by omega)
    by_cases hlt : k < l.length
    · obtain ⟨b, o, rfl, hcs⟩ := hr.at hlt
      have hcell := hcs k hlt
      have hk8 := hlt
      clear hcs
      go_wp2
      go_loop [5, 7] (fun r i => ∃ j : Nat, j ≤ 8 ∧ i = .int .i64 j ∧ r = .int .u32 (crcBits j (crcMore (4294967295 - s) (l.take k) ^^^ l[k].toNat) : Nat)) (fun _ i => 8 - (intOf i).toNat)
      case atStart => exact ⟨0, by omega, rfl, val_int (u32_xor_byte _ hr0)⟩
      case round =>
        obtain ⟨j, hj, rfl, rfl⟩ := hrel
        by_cases hlt : j < 8
        · have hx := crcBits_lt j (xor_byte_lt l[k] hr0)
          rcases Nat.mod_two_eq_zero_or_one (crcBits j (crcMore (4294967295 - s) (l.take k) ^^^ l[k].toNat)) with h2 | h2
          · have e1 := u32_even hx h2
            have H2 := Lib.hid h2
            clear h2
            go_wp2
            go_round
            case rel => exact ⟨j + 1, by omega, by go_num, val_int (by rw [crcBits_succ, crcBit, if_neg (by have := H2.out; omega)]; rfl)⟩
            case measure => simp [intOf]; omega
          · have e1 := u32_odd hx h2
            have H2 := Lib.hid h2
            clear h2
            go_wp2
            go_round
            case rel => exact ⟨j + 1, by omega, by go_num, val_int (by rw [crcBits_succ, crcBit, if_pos H2.out]; exact u32_xor_nat (_ / 2) 3988292384 (by omega) (by omega))⟩
            case measure => simp [intOf]; omega
        · go_wp2
          go_round
          case rel => exact ⟨k + 1, by omega, by go_num, val_int (by rw [crcMore_take _ hk8, show j = 8 from by omega]; rfl)⟩
          case measure => simp [intOf]; omega
    · go_wp2
      go_ret
      exact ⟨ret_int (by rw [u32_not hr0, sumMore, List.take_of_length_le (by omega)]), rfl⟩

set_option maxHeartbeats 400000 in
theorem sum_any (a : Option Addr) (l : List UInt8) (n c : Nat) (w : World) (hn : l.length = n) (hl : l.length ≤ maxLen) (hr : RowB w a l) :
    Calls Try.prog 8 #[.slice a n c] w fun e w' => e = .returned (.int .u32 (sumMore 0 l : Nat)) ∧ w = w' := by
  subst hn
  go_enter Try.func8, Try.ntmps8
  go_wp2_with (go_at_call 10; refine (more_any _ 0 _ l _ _ _ rfl rfl (by omega) hl hr).mono ?_; rintro e w' ⟨rfl, rfl⟩)
  go_ret
  exact ⟨rfl, rfl⟩

set_option maxHeartbeats 400000 in
theorem refsum_any (a : Option Addr) (l : List UInt8) (n c : Nat) (w : World) (hn : l.length = n) (hl : l.length ≤ maxLen) (hr : RowB w a l) :
    Calls Try.prog 9 #[.slice a n c] w fun e w' => e = .returned (.int .u32 (sumMore 0 l : Nat)) ∧ w = w' := by
  subst hn
  go_enter Try.func9, Try.ntmps9
  go_wp2_with (go_at_call 11; refine (refmore_any _ 0 _ l _ _ _ rfl rfl (by omega) hl hr).mono ?_; rintro e w' ⟨rfl, rfl⟩)
  go_ret
  exact ⟨rfl, rfl⟩

set_option maxHeartbeats 400000 in
theorem signed_any (a : Option Addr) (l : List UInt8) (n c : Nat) (w : World) (hn : l.length = n) (hl : l.length ≤ maxLen) (hr : RowB w a l) :
    Calls Try.prog 12 #[.slice a n c] w fun e w' => e = .returned (.int .i32 (wrap32 (sumMore 0 l : Nat))) ∧ w = w' := by
  subst hn
  go_enter Try.func12, Try.ntmps12
  go_wp2_with (go_at_call 8; refine (sum_any _ l _ _ _ rfl hl hr).mono ?_; rintro e w' ⟨rfl, rfl⟩)
  go_ret
  exact ⟨rfl, rfl⟩

set_option maxHeartbeats 400000 in
theorem refsigned_any (a : Option Addr) (l : List UInt8) (n c : Nat) (w : World) (hn : l.length = n) (hl : l.length ≤ maxLen) (hr : RowB w a l) :
    Calls Try.prog 13 #[.slice a n c] w fun e w' => e = .returned (.int .i32 (wrap32 (sumMore 0 l : Nat))) ∧ w = w' := by
  subst hn
  go_enter Try.func13, Try.ntmps13
  go_wp2_with (go_at_call 9; refine (refsum_any _ l _ _ _ rfl hl hr).mono ?_; rintro e w' ⟨rfl, rfl⟩)
  go_ret
  exact ⟨rfl, rfl⟩

theorem refbytes_any (n : Int) (w : World) (h0 : 0 ≤ n) (h1 : n < 4294967296) :
    Calls Try.prog 15 #[.int .u32 n] w fun e w' => e = .returned (.agg #[.int .u8 (n / 16777216), .int .u8 (n / 65536 % 256), .int .u8 (n / 256 % 256), .int .u8 (n % 256)]) ∧ Below w.heap.size w w' := by
  go_enter Try.func15, Try.ntmps15
  go_wp2
  go_returns
  exact ⟨rfl, (Below.refl _ _).alloc (Nat.le_refl _) _⟩
theorem bytes_any (n : Int) (w : World) (h0 : 0 ≤ n) (h1 : n < 4294967296) :
    Calls Try.prog 14 #[.int .u32 n] w fun e w' => e = .returned (.agg #[.int .u8 (n / 16777216), .int .u8 (n / 65536 % 256), .int .u8 (n / 256 % 256), .int .u8 (n % 256)]) ∧ Below w.heap.size w w' := by
  go_enter Try.func14, Try.ntmps14
  go_wp2
  go_rounds 6
  go_returns
  exact ⟨rfl, (Below.refl _ _).alloc (Nat.le_refl _) _⟩
theorem arr_size (w : World) : (sizeOf 5).run Try.prog w = .ok 1 w := by kernel_rfl
theorem arr_under (w : World) : (underlying 29).run Try.prog w = .ok (.array 4 5) w := by kernel_rfl
theorem arr_pt0 (a b c d : Value) (w : World) : (part 5 #[a,b,c,d] 0).run Try.prog w = .ok a w := by kernel_rfl
theorem arr_pt1 (a b c d : Value) (w : World) : (part 5 #[a,b,c,d] 1).run Try.prog w = .ok b w := by kernel_rfl
theorem arr_pt2 (a b c d : Value) (w : World) : (part 5 #[a,b,c,d] 2).run Try.prog w = .ok c w := by kernel_rfl
theorem arr_pt3 (a b c d : Value) (w : World) : (part 5 #[a,b,c,d] 3).run Try.prog w = .ok d w := by kernel_rfl
/-- Four bytes are the same as themselves. -/
theorem arr_same (a b c d : Int) (w : World) : (Op.equalIn 10000 29 (.agg #[.int .u8 a, .int .u8 b, .int .u8 c, .int .u8 d]) (.agg #[.int .u8 a, .int .u8 b, .int .u8 c, .int .u8 d])).run Try.prog w = .ok true w := by
  have hb := fun (x : Int) (w : World) => run_equalIn_int (P := Try.prog) w 9998 5 .u8 .u8 x x Try.underlying5
  rw [show (10000 : Nat) = 9998 + 1 + 1 from rfl]
  unfold Op.equalIn
  simp only [Sem.run_bind, arr_under, arr_size, Result.andThen_ok]
  simp [List.range', Std.Legacy.Range.forIn_eq_forIn_range', Std.Legacy.Range.size, arr_pt0, arr_pt1, arr_pt2, arr_pt3, hb]
def digits : List UInt8 := [49, 50, 51, 52, 53, 54, 55, 56, 57]
theorem sum_digits : sumMore 0 digits = 3421780262 := by decide +kernel
theorem row_digits (w : World) (f : Nat × Nat) : RowB (w.alloc (.cells #[.int .u8 49, .int .u8 50, .int .u8 51, .int .u8 52, .int .u8 53, .int .u8 54, .int .u8 55, .int .u8 56, .int .u8 57] 5 f)) (some ⟨w.heap.size, 0, none⟩) digits := by
  refine .inr ⟨w.heap.size, 0, rfl, fun i h => ?_⟩
  simp only [digits, List.map, List.length] at h
  simp only [World.cell?, heap_alloc_new, Nat.zero_add]
  match i, h with
  | 0, _ => rfl | 1, _ => rfl | 2, _ => rfl | 3, _ => rfl | 4, _ => rfl | 5, _ => rfl | 6, _ => rfl | 7, _ => rfl | 8, _ => rfl
  | k + 9, h => omega
theorem wakes_sum (a : Option Addr) (c : Nat) (w : World) (hr : RowB w a digits) :
    Calls Try.prog 8 #[.slice a 9 c] w fun e w' => e = .returned (.int .u32 3421780262) ∧ w = w' :=
  (sum_any a digits 9 c w rfl (by decide) hr).mono fun e w' ⟨he, hw⟩ => ⟨by rw [he, sum_digits]; rfl, hw⟩
theorem wakes_signed (a : Option Addr) (c : Nat) (w : World) (hr : RowB w a digits) :
    Calls Try.prog 12 #[.slice a 9 c] w fun e w' => e = .returned (.int .i32 (-873187034)) ∧ w = w' :=
  (signed_any a digits 9 c w rfl (by decide) hr).mono fun e w' ⟨he, hw⟩ => ⟨by rw [he, sum_digits]; exact ret_int (by unfold wrap32; decide), hw⟩
theorem wakes_nil (w : World) :
    Calls Try.prog 8 #[.slice none 0 0] w fun e w' => e = .returned (.int .u32 0) ∧ w = w' :=
  (sum_any none [] 0 0 w rfl (by decide) (.nil _ _)).mono fun e w' ⟨he, hw⟩ => ⟨by rw [he]; rfl, hw⟩
set_option maxHeartbeats 400000 in
theorem wakes_any (w : World) :
    Calls Try.prog 7 #[] w fun e w' => e = .returned (.bool true) ∧ Below w.heap.size w w' := by
  have kc := fun (w : World) (C : Array Value) (n c : Nat) => Lib.run_convert_bytes_const (P := Try.prog) w 22 5 C n c Try.underlying22 Try.underlying5
  have hsame := arr_same
  go_enter Try.func7, Try.ntmps7
  go_wp2_with (first
    | (go_at_call 8; ((with_reducible refine (wakes_sum _ _ _ (row_digits w _)).mono ?_); rintro e w' ⟨rfl, rfl⟩))
    | (go_at_call 8; ((with_reducible refine (wakes_nil _).mono ?_); rintro e w' ⟨rfl, rfl⟩))
    | (go_at_call 12; ((with_reducible refine (wakes_signed _ _ _ (row_digits w _)).mono ?_); rintro e w' ⟨rfl, rfl⟩))
    | (go_at_call 14; ((with_reducible refine (bytes_any _ _ (by omega) (by omega)).mono ?_); rintro e w' ⟨rfl, hb⟩)))
  go_returns
  refine ⟨rfl, ?_⟩
  refine Below.trans ((Below.refl _ _).alloc (Nat.le_refl _) _) (hb.mono (by simp))

theorem law_tell (a : Option Addr) (l : List UInt8) (n c : Nat) (s : Int) (w : World) (hn : l.length = n) (hl : l.length ≤ maxLen) (hr : RowB w a l) (h0 : 0 ≤ s) (h1 : s < 4294967296) :
    Calls Try.prog 3 #[.slice a n c, .int .u32 s] w fun e w' => e = .returned (.bool true) ∧ Below w.heap.size w w' := by
  subst hn
  by_cases hg : 20000 < l.length
  · go_enter Try.func3, Try.ntmps3
    go_wp2_with (go_at_call 7; ((with_reducible refine (wakes_any _).mono ?_); rintro e w' ⟨rfl, hb⟩))
    go_returns
    exact ⟨rfl, hb⟩
  · go_enter Try.func3, Try.ntmps3
    go_wp2_with (first
      | (go_at_call 7; ((with_reducible refine (wakes_any _).mono ?_); rintro e w' ⟨rfl, hb⟩))
      | (go_at_call 8; ((with_reducible refine (sum_any _ l _ _ _ rfl hl hr).mono ?_); rintro e w' ⟨rfl, rfl⟩))
      | (go_at_call 9; ((with_reducible refine (refsum_any _ l _ _ _ rfl hl hr).mono ?_); rintro e w' ⟨rfl, rfl⟩))
      | (go_at_call 10; ((with_reducible refine (more_any _ s.toNat _ l _ _ _ rfl (by omega) (by omega) hl hr).mono ?_); rintro e w' ⟨rfl, rfl⟩))
      | (go_at_call 11; ((with_reducible refine (refmore_any _ s.toNat _ l _ _ _ rfl (by omega) (by omega) hl hr).mono ?_); rintro e w' ⟨rfl, rfl⟩)))
    go_returns
    exact ⟨rfl, hb⟩

theorem law_signed (a : Option Addr) (l : List UInt8) (n c : Nat) (s : Int) (w : World) (hn : l.length = n) (hl : l.length ≤ maxLen) (hr : RowB w a l) (h0 : 0 ≤ s) (h1 : s < 4294967296) :
    Calls Try.prog 4 #[.slice a n c, .int .u32 s] w fun e w' => e = .returned (.bool true) ∧ Below w.heap.size w w' := by
  subst hn
  have hsame := arr_same
  by_cases hg : 20000 < l.length
  · go_enter Try.func4, Try.ntmps4
    go_wp2_with (go_at_call 7; ((with_reducible refine (wakes_any _).mono ?_); rintro e w' ⟨rfl, hb⟩))
    go_returns
    exact ⟨rfl, hb⟩
  · go_enter Try.func4, Try.ntmps4
    go_wp2_with (first
      | (go_at_call 7; ((with_reducible refine (wakes_any _).mono ?_); rintro e w' ⟨rfl, hb⟩))
      | (go_at_call 12; ((with_reducible refine (signed_any _ l _ _ _ rfl hl hr).mono ?_); rintro e w' ⟨rfl, rfl⟩))
      | (go_at_call 13; ((with_reducible refine (refsigned_any _ l _ _ _ rfl hl hr).mono ?_); rintro e w' ⟨rfl, rfl⟩))
      | (go_at_call 14; go_loud ((with_reducible refine (bytes_any _ _ h0 h1).mono ?_); rintro e w1 ⟨rfl, hb1⟩))
      | (go_at_call 15; ((with_reducible refine (refbytes_any _ _ h0 h1).mono ?_); rintro e w2 ⟨rfl, hb2⟩)))
    go_returns
    exact ⟨rfl, (hb1.trans (hb2.mono hb1.size)).trans (hb.mono (Nat.le_trans hb1.size hb2.size))⟩
end Go.Proofs.Ytmlpgpopaakjbaa
