/- Four bytes of a number; frames. -/
import Derived.Test.YtlckgnemmffdkaaSumAny
import Derived.Test.YtlckgnemmffdkaaWirMath
namespace Go.Proofs.Ytlckgnemmffdkaa
open Go.ChangeShapes Go.WideShapes Go.ChangeAt Go.RowKit
set_option maxRecDepth 100000

theorem el_bytes : Elem Try.prog 22 5 1 1 where
  under := Try.underlying22
  info := by
    have h : (Try.prog.info? 5).map (fun i => (i.zero, i.size, i.bytes)) = some (some (.int .u8 0), 1, 1) := by kernel_rfl
    obtain ⟨i, hi, h0, h1, h2⟩ := info_parts h
    exact ⟨i, _, hi, h0, h1, h2, rfl⟩
  pos := by decide
  bpos := by decide
theorem bytes_one (l : List UInt8) : ∀ u ∈ l.map B, u.oneCell' = true := by
  intro u hu
  obtain ⟨x, _, rfl⟩ := List.mem_map.1 hu
  rfl
theorem four_cells {n : Nat} (h : n < 4294967296) : (beN 4 n).map B = [.int .u8 ((n : Int) / 16777216), .int .u8 ((n : Int) / 65536 % 256), .int .u8 ((n : Int) / 256 % 256), .int .u8 ((n : Int) % 256)] := by
  simp only [beN, List.map_cons, List.map_nil, B, UInt8.toNat_ofNat']
  have e1 : ((n / 256 ^ 3 % 256 % 2 ^ 8 : Nat) : Int) = (n : Int) / 16777216 := by omega
  have e2 : ((n / 256 ^ 2 % 256 % 2 ^ 8 : Nat) : Int) = (n : Int) / 65536 % 256 := by omega
  have e3 : ((n / 256 ^ 1 % 256 % 2 ^ 8 : Nat) : Int) = (n : Int) / 256 % 256 := by omega
  have e4 : ((n / 256 ^ 0 % 256 % 2 ^ 8 : Nat) : Int) = (n : Int) % 256 := by omega
  rw [e1, e2, e3, e4]
/-- Four bytes in a new row that is full. -/
def RetFour (w : World) (n : Nat) (e : Ending) (w' : World) : Prop := ∃ a, e = .returned (.slice a 4 4) ∧ RowB w' a (beN 4 n) ∧ Below w.heap.size w w'
/-- Bytes in a row. -/
def RetB (w : World) (l : List UInt8) (e : Ending) (w' : World) : Prop := ∃ a c, e = .returned (.slice a l.length c) ∧ RowB w' a l ∧ Below w.heap.size w w'
theorem four_any (n : Nat) (w : World) (h : n < 4294967296) : Calls Try.prog 40 #[.int .u32 n] w (RetFour w n) := by
  have HC := Lib.hid (four_cells h)
  go_enter Try.func40, Try.ntmps40
  go_wp2
  go_ret
  refine ⟨some ⟨w.heap.size, 0, none⟩, rfl, ?_, (Below.refl _ _).alloc (Nat.le_refl _) _⟩
  show Row _ _ _
  rw [HC.out]
  exact Row.new w #[.int .u8 ((n : Int) / 16777216), .int .u8 ((n : Int) / 65536 % 256), .int .u8 ((n : Int) / 256 % 256), .int .u8 ((n : Int) % 256)] _ _
theorem reffour_any (n : Nat) (w : World) (h : n < 4294967296) : Calls Try.prog 42 #[.int .u32 n] w (RetFour w n) := by
  have HC := Lib.hid (four_cells h)
  go_enter Try.func42, Try.ntmps42
  go_wp2
  go_ret
  refine ⟨some ⟨w.heap.size, 0, none⟩, rfl, ?_, (Below.refl _ _).alloc (Nat.le_refl _) _⟩
  show Row _ _ _
  rw [HC.out]
  exact Row.new w #[.int .u8 ((n : Int) / 16777216), .int .u8 ((n : Int) / 65536 % 256), .int .u8 ((n : Int) / 256 % 256), .int .u8 ((n : Int) % 256)] _ _
def frameL (l : List UInt8) : List UInt8 := beN 4 l.length ++ beN 4 (sumMore 0 l) ++ l
theorem frameL_length (l : List UInt8) : (frameL l).length = 8 + l.length := by unfold frameL; simp [beN_length]; omega
end Go.Proofs.Ytlckgnemmffdkaa
