import Derived.Test.YtlckgnemmffdkaaWirRrY
set_option linter.unusedVariables false
set_option linter.unusedSimpArgs false
/- The document's reader: an entry, an answer. (printed by gen_wirrefr.py) -/
namespace Go.Proofs.Ytlckgnemmffdkaa
open Go.ChangeShapes Go.WideShapes Go.ChangeAt Go.RowKit
set_option maxRecDepth 100000

theorem Rs.keep {S : Nat → Prop} {w w' : World} {g c : Nat} {a : Option Addr} {bs : List UInt8} {st : Except Nat Nat} (h : Rs w g a c bs st) (hk : Keep S w w') (hs : ∀ k, S k → Off g (rowA a bs) k) : Rs w' g a c bs st := by
  cases st with
  | ok p => exact ⟨h.1.keep hk hs, h.2⟩
  | error f => exact Rd0.keep h hk hs
theorem Rs.put {w : World} {g c k i : Nat} {a : Option Addr} {bs : List UInt8} {st : Except Nat Nat} {v : Value} (h : Rs w g a c bs st) (hk : Off g (rowA a bs) k) : Rs (w.setCell ⟨k, i, none⟩ v) g a c bs st := h.keep ((Keep.refl (fun j => j = k) w).set _ _ rfl) (fun j e => by subst e; exact hk)
theorem Rs.new {w : World} {g c : Nat} {a : Option Addr} {bs : List UInt8} {st : Except Nat Nat} (h : Rs w g a c bs st) {k : Nat} (hk : w.heap.size ≤ k) : Off g (rowA a bs) k := by
  obtain ⟨x, y, hb, -⟩ := h.at
  exact hb.new hk
theorem Rs.lt {w : World} {g c : Nat} {a : Option Addr} {bs : List UInt8} {st : Except Nat Nat} (h : Rs w g a c bs st) : g < w.heap.size := by
  obtain ⟨x, y, hb, -⟩ := h.at
  exact hb.box.lt (by simp)
theorem Box.turn {w w' : World} {g x : Nat} {cs : List Value} (h : Box w x cs) (ht : Turn g g w w') (h0 : 0 < cs.length) (hx : x ≠ g) : Box w' x cs := h.keep h0 ht (by have := h.lt h0; omega)
theorem Turn.bel {w w' : World} {g : Nat} {b : Nat} (h : Turn g g w w') (hb : b ≤ w.heap.size) (hg : b ≤ g) : Below b w w' := Keep.bel h hb (fun k e => by omega)
def EntE (w : World) (v : WEnt) (e : Ending) (w' : World) : Prop := ∃ p, e = .returned (valEnt v p) ∧ MemEnt w w' v p
set_option maxHeartbeats 4000000 in
theorem entry_rr (g c : Nat) (a : Option Addr) (bs : List UInt8) (st : Except Nat Nat) (w : World) (hl : bs.length ≤ 2000000) (h : Rs w g a c bs st) :
    Calls Try.prog 47 #[.pointer (some ⟨g, 0, none⟩)] w (RetRf w g a c bs wEntP st (EntE w)) := by
  have hB : Below w.heap.size w ((w.alloc (.cells #[.int .i64 0, .int .i8 0, .int .i64 0, .int .u8 0, .slice none 0 0] 32)).alloc (.cells #[.int .i64 0, .int .i8 0, .int .i64 0, .int .u8 0, .slice none 0 0] 32)) := mid_alloc' (mid_alloc' (Below.refl _ _))
  have hgl := h.lt
  have HX := Lib.hid (Box.of_alloc1 (w := w) (o := .cells #[.int .i64 0, .int .i8 0, .int .i64 0, .int .u8 0, .slice none 0 0] 32) (cs := [.int .i64 0, .int .i8 0, .int .i64 0, .int .u8 0, .slice none 0 0]) (t := 32) (Below.refl _ _))
  have HRB := Lib.hid (Box.of_alloc (w := w) (cs := [.int .i64 0, .int .i8 0, .int .i64 0, .int .u8 0, .slice none 0 0]) (t := 32) (mid_alloc' (Below.refl _ _) : Below (w.alloc (.cells #[.int .i64 0, .int .i8 0, .int .i64 0, .int .u8 0, .slice none 0 0] 32)).heap.size (w.alloc (.cells #[.int .i64 0, .int .i8 0, .int .i64 0, .int .u8 0, .slice none 0 0] 32)) ((w.alloc (.cells #[.int .i64 0, .int .i8 0, .int .i64 0, .int .u8 0, .slice none 0 0] 32)).alloc (.cells #[.int .i64 0, .int .i8 0, .int .i64 0, .int .u8 0, .slice none 0 0] 32))))
  have HS := Lib.hid (h.below hB)
  have HT := Lib.hid (Turn.below (g := g) (gx := g) hB)
  have HO := Lib.hid (And.intro (h.new (k := w.heap.size + 1) (by omega)) (And.intro (h.new (k := w.heap.size) (Nat.le_refl _)) (And.intro (show w.heap.size + 1 ≠ w.heap.size by omega) (show w.heap.size ≤ w.heap.size + 1 by omega))))
  have HO2 := Lib.hid hgl
  have HZ := Lib.hid (show w.heap.size + 2 ≤ ((w.alloc (.cells #[.int .i64 0, .int .i8 0, .int .i64 0, .int .u8 0, .slice none 0 0] 32)).alloc (.cells #[.int .i64 0, .int .i8 0, .int .i64 0, .int .u8 0, .slice none 0 0] 32)).heap.size by simp)
  clear h hB hgl
  go_enter Try.func47, Try.ntmps47
  go_wp2_with (first
    | (have hgq := HKv3; clear hgq; go_at_call 72; ((with_reducible refine (bytes_rr g c a bs _ _ hl (HS.out.put HO.out.1) (by have := HT.out.size; have := HO2.out; simp; omega)).mono ?_); rintro en w1 ⟨ht, v4, st1, hk, hs, ad, k, rfl, hd, hle⟩; clear yc yz; have HD : Hid (FarRow ((w.alloc (.cells #[.int .i64 0, .int .i8 0, .int .i64 0, .int .u8 0, .slice none 0 0] 32)).alloc (.cells #[.int .i64 0, .int .i8 0, .int .i64 0, .int .u8 0, .slice none 0 0] 32)) w1 ad (v4.map B)) := Lib.hid (FarRow.mono hd (by have := HZ.out; simp; omega)); have HLE := Lib.hid hle; clear hd hle; replace HX := Lib.hid ((HX.out.set (i := 3) (by simp) (B v3)).turn ht (by simp) HO.out.1.ne); replace HRB := Lib.hid ((HRB.out.far (p := ⟨_, 3, none⟩) HO.out.2.2.1 (B v3)).turn ht (by simp) HO.out.2.1.ne); replace HT := Lib.hid (Turn.next (HT.out.set ⟨_, 3, none⟩ (B v3) (.inr (.inr HO.out.2.2.2))) ht); have HKv4 := Lib.hid hk; replace HS := Lib.hid hs; replace HZ := Lib.hid (Nat.le_trans HZ.out (by have := ht.size; first | exact this | (simp at this; omega))); have x0 := HX.out.cell (j := 0) rfl; have xz0 := HX.out.froz (j := 0) (by simp); have r0 := HRB.out.cell (j := 0) rfl; have rz0 := HRB.out.froz (j := 0) (by simp); have x1 := HX.out.cell (j := 1) rfl; have xz1 := HX.out.froz (j := 1) (by simp); have r1 := HRB.out.cell (j := 1) rfl; have rz1 := HRB.out.froz (j := 1) (by simp); have x2 := HX.out.cell (j := 2) rfl; have xz2 := HX.out.froz (j := 2) (by simp); have r2 := HRB.out.cell (j := 2) rfl; have rz2 := HRB.out.froz (j := 2) (by simp); have x3 := HX.out.cell (j := 3) rfl; have xz3 := HX.out.froz (j := 3) (by simp); have r3 := HRB.out.cell (j := 3) rfl; have rz3 := HRB.out.froz (j := 3) (by simp); have x4 := HX.out.cell (j := 4) rfl; have xz4 := HX.out.froz (j := 4) (by simp); have r4 := HRB.out.cell (j := 4) rfl; have rz4 := HRB.out.froz (j := 4) (by simp); clear ht hk hs))
    | (have hgq := HKv2; clear hgq; go_at_call 54; ((with_reducible refine (small_rr g c a bs _ _ hl (HS.out.put HO.out.1)).mono ?_); rintro en w1 ⟨ht, v3, st1, hk, hs, rfl⟩; clear yc yz; replace HX := Lib.hid ((HX.out.set (i := 2) (by simp) (.int .i64 v2)).turn ht (by simp) HO.out.1.ne); replace HRB := Lib.hid ((HRB.out.far (p := ⟨_, 2, none⟩) HO.out.2.2.1 (.int .i64 v2)).turn ht (by simp) HO.out.2.1.ne); replace HT := Lib.hid (Turn.next (HT.out.set ⟨_, 2, none⟩ (.int .i64 v2) (.inr (.inr HO.out.2.2.2))) ht); have HKv3 := Lib.hid hk; replace HS := Lib.hid hs; replace HZ := Lib.hid (Nat.le_trans HZ.out (by have := ht.size; first | exact this | (simp at this; omega))); have yc := HX.out.cell (j := 3) rfl; have yz := HX.out.froz (j := 3) (by simp); clear ht hk hs))
    | (have hgq := HKv1; clear hgq; go_at_call 55; ((with_reducible refine (number_rr g c a bs _ _ hl (HS.out.put HO.out.1)).mono ?_); rintro en w1 ⟨ht, v2, st1, hk, hs, rfl⟩; clear yc yz; replace HX := Lib.hid ((HX.out.set (i := 1) (by simp) (.int .i8 (IntKind.i8.wrap (v1.toNat : Int)))).turn ht (by simp) HO.out.1.ne); replace HRB := Lib.hid ((HRB.out.far (p := ⟨_, 1, none⟩) HO.out.2.2.1 (.int .i8 (IntKind.i8.wrap (v1.toNat : Int)))).turn ht (by simp) HO.out.2.1.ne); replace HT := Lib.hid (Turn.next (HT.out.set ⟨_, 1, none⟩ (.int .i8 (IntKind.i8.wrap (v1.toNat : Int))) (.inr (.inr HO.out.2.2.2))) ht); have HKv2 := Lib.hid hk; replace HS := Lib.hid hs; replace HZ := Lib.hid (Nat.le_trans HZ.out (by have := ht.size; first | exact this | (simp at this; omega))); have yc := HX.out.cell (j := 2) rfl; have yz := HX.out.froz (j := 2) (by simp); clear ht hk hs))
    | (have hgq := HKv0; clear hgq; go_at_call 54; ((with_reducible refine (small_rr g c a bs _ _ hl (HS.out.put HO.out.1)).mono ?_); rintro en w1 ⟨ht, v1, st1, hk, hs, rfl⟩; clear yc yz; replace HX := Lib.hid ((HX.out.set (i := 0) (by simp) (.int .i64 v0)).turn ht (by simp) HO.out.1.ne); replace HRB := Lib.hid ((HRB.out.far (p := ⟨_, 0, none⟩) HO.out.2.2.1 (.int .i64 v0)).turn ht (by simp) HO.out.2.1.ne); replace HT := Lib.hid (Turn.next (HT.out.set ⟨_, 0, none⟩ (.int .i64 v0) (.inr (.inr HO.out.2.2.2))) ht); have HKv1 := Lib.hid hk; replace HS := Lib.hid hs; replace HZ := Lib.hid (Nat.le_trans HZ.out (by have := ht.size; first | exact this | (simp at this; omega))); have yc := HX.out.cell (j := 1) rfl; have yz := HX.out.froz (j := 1) (by simp); clear ht hk hs))
    | (go_at_call 55; ((with_reducible refine (number_rr g c a bs _ _ hl HS.out).mono ?_); rintro en w1 ⟨ht, v0, st1, hk, hs, rfl⟩; replace HX := Lib.hid (HX.out.turn ht (by simp) HO.out.1.ne); replace HRB := Lib.hid (HRB.out.turn ht (by simp) HO.out.2.1.ne); replace HT := Lib.hid (Turn.next HT.out ht); have HKv0 := Lib.hid hk; replace HS := Lib.hid hs; replace HZ := Lib.hid (Nat.le_trans HZ.out (by have := ht.size; first | exact this | (simp at this; omega))); have yc := HX.out.cell (j := 0) rfl; have yz := HX.out.froz (j := 0) (by simp); clear ht hk hs)))
  obtain ⟨w3, hw3⟩ : ∃ w3, w3 = (w1.setCell ⟨w.heap.size + 1, 4, none⟩ (.slice ad v4.length k)).setCells w.heap.size 0 [.int .i64 v0, .int .i8 (IntKind.i8.wrap (v1.toNat : Int)), .int .i64 v2, B v3, .slice ad v4.length k] := ⟨_, rfl⟩
  have hS3 : Rs w3 g a c bs st1 := by rw [hw3]; exact Rs.keep (HS.out.put HO.out.1) (Keep.sets (S := fun k => k = w.heap.size) rfl _ 0 (Keep.refl _ _)) (fun k e => by subst e; exact HO.out.2.1)
  have hT3 : Turn g g w w3 := by rw [hw3]; exact Keep.sets (.inr (.inr (Nat.le_refl _))) _ 0 (HT.out.set ⟨w.heap.size + 1, 4, none⟩ (.slice ad v4.length k) (.inr (.inr HO.out.2.2.2)))
  have hk3 : Keep (fun k => k = w.heap.size ∨ k = w.heap.size + 1) w1 w3 := by rw [hw3]; exact Keep.sets (S := fun k => k = w.heap.size ∨ k = w.heap.size + 1) (.inl rfl) _ 0 ((Keep.refl _ w1).set _ _ (.inr rfl))
  have hX3 : Box w3 w.heap.size [.int .i64 v0, .int .i8 (IntKind.i8.wrap (v1.toNat : Int)), .int .i64 v2, B v3, .slice ad v4.length k] := by rw [hw3]; exact Box.whole (HRB.out.far (p := ⟨w.heap.size + 1, 4, none⟩) HO.out.2.2.1 (.slice ad v4.length k)) rfl
  show bodyPost _ _ _ _ _ ((w1.setCell ⟨w.heap.size + 1, 4, none⟩ (.slice ad v4.length k)).setCells w.heap.size 0 [.int .i64 v0, .int .i8 (IntKind.i8.wrap (v1.toNat : Int)), .int .i64 v2, B v3, .slice ad v4.length k])
  rw [← hw3]
  have c0 := hX3.cell (j := 0) rfl
  have c1 := hX3.cell (j := 1) rfl
  have c2 := hX3.cell (j := 2) rfl
  have c3 := hX3.cell (j := 3) rfl
  have c4 := hX3.cell (j := 4) rfl
  refine bodyPost_ret (v := .agg #[.int .i64 v0, .int .i8 (IntKind.i8.wrap (v1.toNat : Int)), .int .i64 v2, B v3, .slice ad v4.length k]) (by simp [results, Try.results47, go_sem, c0, c1, c2, c3, c4]) rfl ?_
  rw [kind_wrap]
  refine ⟨hT3, ⟨v0, kindI v1, v2, v3, v4⟩, st1, ?_, hS3, (ad, k), rfl, ⟨(HD.out.keep hk3 (fun k e => by simp; omega)).mono (by simp; omega), HLE.out⟩⟩
  have h4 := HKv4.out.map (fun v4 => (⟨v0, kindI v1, v2, v3, v4⟩ : WEnt))
  have h3 := Link.bind (F := fun v3 l p => bindP (bytesP l p) fun v4 p => .ok ((⟨v0, kindI v1, v2, v3, v4⟩ : WEnt), p)) HKv3.out h4
  have h2 := Link.bind (F := fun v2 l p => bindP (smallP l p) fun v3 p => bindP (bytesP l p) fun v4 p => .ok ((⟨v0, kindI v1, v2, v3, v4⟩ : WEnt), p)) HKv2.out h3
  have h1 := Link.bind (F := fun v1 l p => bindP (numP l p) fun v2 p => bindP (smallP l p) fun v3 p => bindP (bytesP l p) fun v4 p => .ok ((⟨v0, v1, v2, v3, v4⟩ : WEnt), p)) (HKv1.out.map kindI) h2
  have h0 := Link.bind (F := fun v0 l p => bindP (kindP l p) fun v1 p => bindP (numP l p) fun v2 p => bindP (smallP l p) fun v3 p => bindP (bytesP l p) fun v4 p => .ok ((⟨v0, v1, v2, v3, v4⟩ : WEnt), p)) HKv0.out h1
  exact h0
end Go.Proofs.Ytlckgnemmffdkaa
