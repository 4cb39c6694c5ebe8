/- The same bytes, the same entries. -/
import Derived.Test.YtlckgnemmffdkaaWirEnt
import Derived.Test.YtlckgnemmffdkaaWirUnf
namespace Go.Proofs.Ytlckgnemmffdkaa
open Go.ChangeShapes Go.WideShapes Go.ChangeAt Go.RowKit
set_option maxRecDepth 100000

theorem same_data (a b : Option Addr) (c d n m : Nat) (l : List UInt8) (w : World) (ha : RowB w a l) (hb : RowB w b l) (hn : l.length = n) (hm : l.length = m) :
    Calls Try.prog 51 #[.slice a n c, .slice b m d] w (fun e w' => e = .returned (.bool true) ∧ w = w') := by
  have h1 := conv_bytes (c := c) ha hn
  have h2 := conv_bytes (c := d) hb hm
  clear ha hb hn hm
  go_enter Try.func51, Try.ntmps51
  go_wp2
  go_ret
  exact ⟨rfl, rfl⟩
set_option maxHeartbeats 1000000 in
theorem same_entry (v : WEnt) (p q : PEnt) (w : World) (hp : RowB w p.1 v.data) (hq : RowB w q.1 v.data) :
    Calls Try.prog 18 #[valEnt v p, valEnt v q] w (fun e w' => e = .returned (.bool true) ∧ Below w.heap.size w w') := by
  obtain ⟨v0, v1, v2, v3, v4⟩ := v
  obtain ⟨p0, p1⟩ := p
  obtain ⟨q0, q1⟩ := q
  have hB : Below w.heap.size w ((w.alloc (.cells #[.int .i64 v0, .int .i8 v1, .int .i64 v2, B v3, .slice p0 v4.length p1] 32)).alloc (.cells #[.int .i64 v0, .int .i8 v1, .int .i64 v2, B v3, .slice q0 v4.length q1] 32)) := mid_alloc' (mid_alloc' (Below.refl _ _))
  have HS := Lib.hid (same_data p0 q0 p1 q1 v4.length v4.length v4 _ (hp.below hB) (hq.below hB) rfl rfl)
  have HB := Lib.hid hB
  clear hp hq hB
  unfold valEnt
  simp only
  go_enter Try.func18, Try.ntmps18
  go_wp2_with (go_at_call 51; ((with_reducible refine HS.out.mono ?_); rintro e w1 ⟨rfl, rfl⟩))
  go_ret
  exact ⟨rfl, HB.out⟩
end Go.Proofs.Ytlckgnemmffdkaa
