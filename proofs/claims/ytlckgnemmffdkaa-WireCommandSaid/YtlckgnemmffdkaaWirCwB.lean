/- A writer of bytes: a kind, a truth, a count, bytes put. -/
import Derived.Test.YtlckgnemmffdkaaWirSmall
import Derived.Deep.QuietTactic
import Derived.BigQuiet
import Derived.Test.YtlckgnemmffdkaaWirThings
namespace Go.Proofs.Ytlckgnemmffdkaa
open Go.ChangeShapes Go.WideShapes Go.ChangeAt Go.RowKit
set_option maxRecDepth 100000

/-- A row that lies ahead of the writer. -/
structure LowRow (g : Nat) (w : World) (a : Option Addr) (xs : List Value) : Prop where
  row : Row w a xs
  low : xs ≠ [] → ∀ b o s, a = some ⟨b, o, s⟩ → b < g
theorem LowRow.of {g : Nat} {w : World} {a : Option Addr} {xs : List Value} (h : Row w a xs) (hg : w.heap.size ≤ g) : LowRow g w a xs := ⟨h, fun h0 b o s e => by
  rcases h with h | ⟨b1, o1, rfl, h1⟩
  · exact absurd h h0
  · have := Row.lt (.inr ⟨b1, o1, rfl, h1⟩) h0
    simp only [Option.some.injEq, Addr.mk.injEq] at e; omega⟩
theorem LowRow.block {g : Nat} {w w' : World} {a : Option Addr} {xs : List Value} (h : LowRow g w a xs) (hk : ∀ k, k < g → k < w.heap.size → w'.heap[k]? = w.heap[k]?) : LowRow g w' a xs := ⟨by
  by_cases h0 : xs = []
  · exact .inl h0
  · rcases h.row with h1 | ⟨b, o, rfl, hc⟩
    · exact absurd h1 h0
    · have hlt := Row.lt (.inr ⟨b, o, rfl, hc⟩) h0
      exact .inr ⟨b, o, rfl, fun i hi => by rw [World.cell?_of_block (w := w) (hk b (h.low h0 b o none rfl) hlt)]; exact hc i hi⟩, h.low⟩
theorem LowRow.below {g : Nat} {w w' : World} {a : Option Addr} {xs : List Value} (h : LowRow g w a xs) (hb : Below w.heap.size w w') : LowRow g w' a xs := h.block fun k _ hk => hb.block k hk
theorem LowRow.grew {D g c : Nat} {w w' : World} {a a' ad : Option Addr} {bs : List UInt8} {xs : List Value} (h : LowRow g w ad xs) (hc : Cw w D g a c bs) (hg : Grew g a a' w w') : LowRow g w' ad xs :=
  h.block fun k hk hs => hg.keep k hs (by omega) (fun o s e => by have := hc.far _ _ _ e; have := hc.low; omega)
theorem Grew.pre {g : Nat} {a a' : Option Addr} {w W w' : World} (h : Grew g a a' W w') (hb : Below w.heap.size w W) : Grew g a a' w w' :=
  ⟨h.os.trans hb.os, h.tape.trans hb.tape, h.output.trans hb.output, Nat.le_trans hb.size h.size, fun k hk hg ha => by rw [h.keep k (Nat.lt_of_lt_of_le hk hb.size) hg ha, hb.block k hk], h.near.mono hb.size⟩
theorem Grew.next {g : Nat} {a a' : Option Addr} {w w' w'' : World} (h : Grew g a a' w w') (hb : Below w'.heap.size w' w'') : Grew g a a' w w'' :=
  ⟨hb.os.trans h.os, hb.tape.trans h.tape, hb.output.trans h.output, Nat.le_trans h.size hb.size, fun k hk hg ha => by rw [hb.block k (Nat.lt_of_lt_of_le hk h.size), h.keep k hk hg ha], h.near⟩
set_option maxHeartbeats 1000000 in
theorem kind_w (D g gx ox c : Nat) (a : Option Addr) (bs : List UInt8) (k0 : Int) (w : World) (h : Cw w D g a c bs) (hD : D ≤ w.heap.size) (hx : w.cell? ⟨gx, ox, none⟩ = some (.int .i8 k0)) (hz : w.frozen? ⟨gx, ox, none⟩ = false) (hk0 : -128 ≤ k0 ∧ k0 < 128) (hgx : gx ≠ g) (hxa : ∀ o s, a ≠ some ⟨gx, o, s⟩) (hn : bs.length ≤ 10000000) :
    Calls Try.prog 80 #[.pointer (some ⟨g, 0, none⟩), .pointer (some ⟨gx, ox, none⟩)] w (RetCw w D g a (bs ++ [kindB k0])) := by
  have hgl := World.block_lt_of_cell? w _ hx
  obtain ⟨W, hW⟩ : ∃ W, W = w.alloc (.cells #[.int .u8 (k0 % 256)] 5) := ⟨_, rfl⟩
  have hB : Below w.heap.size w W := by rw [hW]; exact (Below.refl _ _).alloc (Nat.le_refl _) _
  have hT : Box W w.heap.size [.int .u8 (k0 % 256)] := by rw [hW]; exact Box.of_alloc (Below.refl _ _)
  have hkb : Value.int .u8 (k0 % 256) = B (kindB k0) := by rw [B, ← kind_byte hk0, IntKind.wrap_u8]
  have hks : IntKind.i8.wrap (k0 % 256) = k0 := by simp [IntKind.wrap, IntKind.bits, IntKind.signed]; split <;> omega
  have HS : Hid (Calls Try.prog 81 #[.pointer (some ⟨g, 0, none⟩), .pointer (some ⟨w.heap.size, 0, none⟩)] W (RetCw W D g a (bs ++ [kindB k0]))) := small_w D g w.heap.size 0 c a bs (kindB k0) W (h.below hB) (Nat.le_trans hD hB.size) (by rw [← hkb]; exact hT.cell (j := 0) rfl) h.new.1 h.new.2 (by omega)
  have HC := Lib.hid h
  have HB := Lib.hid hB
  have HT := Lib.hid hT
  have HN := Lib.hid h.new
  have HK := Lib.hid hks
  have HO := Lib.hid (And.intro hgx hxa)
  have hxc := (hB.cell (p := ⟨gx, ox, none⟩) hgl).trans hx
  have hxz := (hB.frozen (p := ⟨gx, ox, none⟩) hgl).trans hz
  have HX := Lib.hid (And.intro hxc hxz)
  have HGL := Lib.hid hgl
  clear h hB hT hkb hks hgx hxa hxc hxz
  rw [hW] at HS
  have HW := Lib.hid hW
  clear hW
  go_enter Try.func80, Try.ntmps80
  go_wp2_with (go_at_call 81; ((with_reducible refine HS.out.mono ?_); rw [← HW.out]; rintro e w1 ⟨a1, c1, rfl, hcw1, hgr1⟩; have y0 := (HT.out.grew (by simp) hgr1 HN.out.1 HN.out.2).cell (j := 0) rfl; have y1 := grew_cell hgr1 HX.out.1 HO.out.1 HO.out.2; have hbl := hgr1.keep gx (by have := HB.out.size; have := HGL.out; omega) HO.out.1 HO.out.2; have y2 : w1.frozen? ⟨gx, ox, none⟩ = false := (by have h2 := HX.out.2; simp only [World.frozen?] at h2 ⊢; rw [hbl]; exact h2); have HC1 := Lib.hid hcw1; have HG1 := Lib.hid (hgr1.pre HB.out); clear hcw1 hgr1 hbl))
  rw [HK.out, setCell_id y1]
  go_end0
  exact ⟨a1, c1, rfl, HC1.out, HG1.out⟩
set_option maxHeartbeats 1000000 in
theorem truth_w (D g gx ox c : Nat) (a : Option Addr) (bs : List UInt8) (x : Bool) (w : World) (h : Cw w D g a c bs) (hD : D ≤ w.heap.size) (hx : w.cell? ⟨gx, ox, none⟩ = some (.bool x)) (hz : w.frozen? ⟨gx, ox, none⟩ = false) (hgx : gx ≠ g) (hxa : ∀ o s, a ≠ some ⟨gx, o, s⟩) (hn : bs.length ≤ 10000000) :
    Calls Try.prog 84 #[.pointer (some ⟨g, 0, none⟩), .pointer (some ⟨gx, ox, none⟩)] w (RetCw w D g a (bs ++ [truthB x])) := by
  have hgl := World.block_lt_of_cell? w _ hx
  obtain ⟨W, hW⟩ : ∃ W, W = w.alloc (.cells #[.int .u8 (if x then 1 else 0)] 5) := ⟨_, rfl⟩
  have hB : Below w.heap.size w W := by rw [hW]; exact (Below.refl _ _).alloc (Nat.le_refl _) _
  have hT : Box W w.heap.size [B (truthB x)] := by
    rw [hW]; cases x
    · exact Box.of_alloc (Below.refl _ _)
    · exact Box.of_alloc (Below.refl _ _)
  have HS : Hid (Calls Try.prog 81 #[.pointer (some ⟨g, 0, none⟩), .pointer (some ⟨w.heap.size, 0, none⟩)] W (RetCw W D g a (bs ++ [truthB x]))) := small_w D g w.heap.size 0 c a bs (truthB x) W (h.below hB) (Nat.le_trans hD hB.size) (hT.cell (j := 0) rfl) h.new.1 h.new.2 (by omega)
  have HC := Lib.hid h
  have HB := Lib.hid hB
  have HT := Lib.hid hT
  have HN := Lib.hid h.new
  have HO := Lib.hid (And.intro hgx hxa)
  have hxc := (hB.cell (p := ⟨gx, ox, none⟩) hgl).trans hx
  have hxz := (hB.frozen (p := ⟨gx, ox, none⟩) hgl).trans hz
  have HX := Lib.hid (And.intro hxc hxz)
  have HGL := Lib.hid hgl
  clear h hB hT hgx hxa hxc hxz
  rw [hW] at HS
  have HW := Lib.hid hW
  clear hW
  cases x
  all_goals
    simp only [if_true, Bool.false_eq_true, if_false] at HS HW
    go_enter Try.func84, Try.ntmps84
    go_wp2_with (go_at_call 81; ((with_reducible refine HS.out.mono ?_); rw [← HW.out]; rintro e w1 ⟨a1, c1, rfl, hcw1, hgr1⟩; have y0 := (HT.out.grew (by simp) hgr1 HN.out.1 HN.out.2).cell (j := 0) rfl; have y1 := grew_cell hgr1 HX.out.1 HO.out.1 HO.out.2; have hbl := hgr1.keep gx (by have := HB.out.size; have := HGL.out; omega) HO.out.1 HO.out.2; have y2 : w1.frozen? ⟨gx, ox, none⟩ = false := (by have h2 := HX.out.2; simp only [World.frozen?] at h2 ⊢; rw [hbl]; exact h2); have HC1 := Lib.hid hcw1; have HG1 := Lib.hid (hgr1.pre HB.out); clear hcw1 hgr1 hbl))
    try rw [show Value.bool (((truthB false).toNat : Int) == 1) = .bool false from rfl]
    try rw [show Value.bool (((truthB true).toNat : Int) == 1) = .bool true from rfl]
    rw [setCell_id y1]
    go_end0
    exact ⟨a1, c1, rfl, HC1.out, HG1.out⟩
def RetCount' (w : World) (D g : Nat) (a : Option Addr) (n : Nat) (bs : List UInt8) (e : Ending) (w' : World) : Prop := ∃ a' c', e = .returned (.int .i64 n) ∧ Cw w' D g a' c' bs ∧ Grew g a a' w w'
set_option maxHeartbeats 1000000 in
theorem count_w (D g c size : Nat) (n : Nat) (a : Option Addr) (bs : List UInt8) (w : World) (h : Cw w D g a c bs) (hD : D ≤ w.heap.size) (hn : bs.length ≤ 10000000) :
    Calls Try.prog 100 #[.pointer (some ⟨g, 0, none⟩), .int .i64 n, .int .i64 size] w (RetCount' w D g a n (bs ++ be8 n)) := by
  have x0 := h.box.cell (j := 1) rfl
  have hgl := h.box.lt (by simp)
  obtain ⟨W, hW⟩ : ∃ W, W = w.alloc (.cells #[.int .i64 n] 3) := ⟨_, rfl⟩
  have hB : Below w.heap.size w W := by rw [hW]; exact (Below.refl _ _).alloc (Nat.le_refl _) _
  have hT : Box W w.heap.size [.int .i64 n] := by rw [hW]; exact Box.of_alloc (Below.refl _ _)
  have HS : Hid (Calls Try.prog 79 #[.pointer (some ⟨g, 0, none⟩), .pointer (some ⟨w.heap.size, 0, none⟩)] W (RetCw W D g a (bs ++ be8 n))) := number_w D g w.heap.size 0 c a bs n W (h.below hB) (Nat.le_trans hD hB.size) (hT.cell (j := 0) rfl) h.new.1 h.new.2 hn
  have HT := Lib.hid hT
  have HN := Lib.hid h.new
  have HB := Lib.hid hB
  clear h hB hT
  rw [hW] at HS
  have HW := Lib.hid hW
  clear hW
  go_enter Try.func100, Try.ntmps100
  go_wp2_with (go_at_call 79; ((with_reducible refine HS.out.mono ?_); rw [← HW.out]; rintro e w1 ⟨a1, c1, rfl, hcw1, hgr1⟩; have y0 := (HT.out.grew (by simp) hgr1 HN.out.1 HN.out.2).cell (j := 0) rfl; have y2 := hcw1.box.cell (j := 2) rfl; have HC1 := Lib.hid hcw1; have HG1 := Lib.hid (hgr1.pre HB.out); clear hcw1 hgr1))
  go_quiet (fail)
  go_wp2
  go_ret
  exact ⟨a1, c1, rfl, HC1.out.below (below_drewN (Below.refl w1.heap.size w1) nq), HG1.out.next (below_drewN (Below.refl w1.heap.size w1) nq)⟩
end Go.Proofs.Ytlckgnemmffdkaa
