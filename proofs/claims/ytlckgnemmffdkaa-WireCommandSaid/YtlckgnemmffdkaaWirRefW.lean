/- The document's writer: a truth, bytes. (printed by gen_wirrefw.py) -/
import Derived.Test.YtlckgnemmffdkaaWirRefNum
namespace Go.Proofs.Ytlckgnemmffdkaa
open Go.ChangeShapes Go.WideShapes Go.ChangeAt Go.RowKit
set_option maxRecDepth 100000

theorem LowRow.gro {D c : Nat} {w w' : World} {a a' ad : Option Addr} {bs : List UInt8} {xs : List Value} (h : LowRow D w ad xs) (hc : Cb w D a c bs) (hg : Gro a a' w w') : LowRow D w' ad xs :=
  h.block fun k hk hs => hg.keep k hs (fun o s e => by have := (hc.far _ _ _ e).1; omega)
set_option maxHeartbeats 1000000 in
theorem truth_rf (D c : Nat) (a : Option Addr) (bs : List UInt8) (x : Bool) (w : World) (h : Cb w D a c bs) (hD : D ≤ w.heap.size) (hn : bs.length ≤ 10000000) :
    Calls Try.prog 63 #[.slice a bs.length c, .bool x] w (RetCb w D a (bs ++ [truthB x])) := by
  have HC := Lib.hid h
  clear h
  cases x
  · have HV : Hid ([B (truthB false)] = [.int .u8 0]) := rfl
    go_enter Try.func63, Try.ntmps63
    go_wp2_with (at_builtin; (refine wpList_far el_bytes rfl (.tmp 9) (.tmp 10) rfl D a bs.length c (bs.map B) rfl (HC.out.can.alloc _) (some ⟨w.heap.size, 0, none⟩) 1 1 [B (truthB false)] rfl rfl (by rw [HV.out]; exact Row.new _ _ _ _) (by intro u hu; simp at hu; subst hu; rfl) (by omega) (by simp; omega) (fun b o s e => ⟨(HC.out.far b o s e).1, by have := (HC.out.far b o s e).2; simp; omega⟩) ?_); intro a2 c2 w2 hcan2 hg2 hn2 hf2 hl2; have hst := Cb.step (ns := [truthB false]) ((Below.refl _ _).alloc (Nat.le_refl _) _) hcan2 hg2 hn2 hf2 hl2; have HST := Lib.hid hst; clear hst hcan2 hg2 hn2 hf2 hl2)
    go_ret
    exact ⟨a2, c2, by rw [List.length_append]; rfl, HST.out.1, HST.out.2⟩
  · have HV : Hid ([B (truthB true)] = [.int .u8 1]) := rfl
    go_enter Try.func63, Try.ntmps63
    go_wp2_with (at_builtin; (refine wpList_far el_bytes rfl (.tmp 6) (.tmp 7) rfl D a bs.length c (bs.map B) rfl (HC.out.can.alloc _) (some ⟨w.heap.size, 0, none⟩) 1 1 [B (truthB true)] rfl rfl (by rw [HV.out]; exact Row.new _ _ _ _) (by intro u hu; simp at hu; subst hu; rfl) (by omega) (by simp; omega) (fun b o s e => ⟨(HC.out.far b o s e).1, by have := (HC.out.far b o s e).2; simp; omega⟩) ?_); intro a2 c2 w2 hcan2 hg2 hn2 hf2 hl2; have hst := Cb.step (ns := [truthB true]) ((Below.refl _ _).alloc (Nat.le_refl _) _) hcan2 hg2 hn2 hf2 hl2; have HST := Lib.hid hst; clear hst hcan2 hg2 hn2 hf2 hl2)
    go_ret
    exact ⟨a2, c2, by rw [List.length_append]; rfl, HST.out.1, HST.out.2⟩
set_option maxHeartbeats 1000000 in
theorem bytes_rf (D c m k : Nat) (a ad : Option Addr) (bs ds : List UInt8) (w : World) (h : Cb w D a c bs) (hD : D ≤ w.heap.size) (hm : ds.length = m) (hr : LowRow D w ad (ds.map B)) (hn : bs.length ≤ 9000000) (hn2 : m ≤ 9000000) :
    Calls Try.prog 74 #[.slice a bs.length c, .slice ad m k] w (RetCb w D a (bs ++ (be8 ds.length ++ ds))) := by
  have HNU := Lib.hid (number_rf D c a bs (m : Int) w h hD (by omega))
  have HC := Lib.hid h
  have HR := Lib.hid hr
  have HM := Lib.hid hm
  have hlb : (bs ++ be8 (m : Int)).length ≤ 9000008 := by rw [List.length_append, be8_length]; omega
  have HT := Lib.hid (show bs ++ (be8 ds.length ++ ds) = (bs ++ be8 (m : Int)) ++ ds by rw [hm, List.append_assoc])
  clear h hr hm
  generalize bs ++ be8 (m : Int) = l1 at HNU HT hlb
  go_enter Try.func74, Try.ntmps74
  go_wp2_with (first
    | (go_at_call 62; ((with_reducible refine HNU.out.mono ?_); rintro e w1 ⟨a1, c1, rfl, hb1, hg1⟩; have HR1 := Lib.hid (HR.out.gro HC.out hg1); have HD1 := Lib.hid (Nat.le_trans hD hg1.size); have HC1 := Lib.hid hb1; have HG1 := Lib.hid hg1; clear hb1 hg1))
    | (at_builtin; (refine wpList_far el_bytes rfl (.tmp 8) (.tmp 9) rfl D a1 l1.length c1 (l1.map B) rfl HC1.out.can ad m k (ds.map B) rfl (by rw [List.length_map, HM.out, Nat.mul_one]) HR1.out.row (bytes_one _) (by omega) HD1.out (fun b o s e => HC1.out.far b o s e) ?_); intro a2 c2 w2 hcan2 hg2 hn2 hf2 hl2; rw [← HM.out] at hcan2; have hst := Cb.step (ns := ds) (Below.refl _ _) hcan2 hg2 hn2 hf2 hl2; have HST := Lib.hid hst; clear hst hcan2 hg2 hn2 hf2 hl2))
  go_ret
  refine ⟨a2, c2, ?_, ?_, HG1.out.trans HST.out.2⟩
  · rw [HT.out, List.length_append, HM.out]; rfl
  · rw [HT.out]; exact HST.out.1
/-- The same, the bytes under a name of their own. -/
def RetCbL (w : World) (D : Nat) (a : Option Addr) (bs ns : List UInt8) (k : Nat) (e : Ending) (w' : World) : Prop := ∃ l a' c', e = .returned (.slice a' l.length c') ∧ l = bs ++ ns ∧ l.length ≤ bs.length + k ∧ Cb w' D a' c' l ∧ Gro a a' w w'
theorem RetCb.l {w w' : World} {D k : Nat} {a : Option Addr} {bs ns : List UInt8} {e : Ending} (h : RetCb w D a (bs ++ ns) e w') (hk : ns.length ≤ k) : RetCbL w D a bs ns k e w' := by
  obtain ⟨a', c', h1, h2, h3⟩ := h
  exact ⟨_, a', c', h1, rfl, by rw [List.length_append]; omega, h2, h3⟩
theorem number_rl (D c : Nat) (a : Option Addr) (bs : List UInt8) (v : Int) (w : World) (h : Cb w D a c bs) (hD : D ≤ w.heap.size) (hn : bs.length ≤ 10000000) :
    Calls Try.prog 62 #[.slice a bs.length c, .int .i64 v] w (RetCbL w D a bs (be8 v) 8) := (number_rf D c a bs v w h hD hn).mono fun _ _ h => h.l (by rw [be8_length]; exact Nat.le_refl _)
theorem truth_rl (D c : Nat) (a : Option Addr) (bs : List UInt8) (x : Bool) (w : World) (h : Cb w D a c bs) (hD : D ≤ w.heap.size) (hn : bs.length ≤ 10000000) :
    Calls Try.prog 63 #[.slice a bs.length c, .bool x] w (RetCbL w D a bs [truthB x] 1) := (truth_rf D c a bs x w h hD hn).mono fun _ _ h => h.l (Nat.le_refl _)
theorem bytes_rl (D c m k : Nat) (a ad : Option Addr) (bs ds : List UInt8) (w : World) (h : Cb w D a c bs) (hD : D ≤ w.heap.size) (hm : ds.length = m) (hr : LowRow D w ad (ds.map B)) (hn : bs.length ≤ 9000000) (hn2 : m ≤ 9000000) :
    Calls Try.prog 74 #[.slice a bs.length c, .slice ad m k] w (RetCbL w D a bs (be8 ds.length ++ ds) (8 + m)) := (bytes_rf D c m k a ad bs ds w h hD hm hr hn hn2).mono fun _ _ h => h.l (by rw [List.length_append, be8_length, hm]; exact Nat.le_refl _)
end Go.Proofs.Ytlckgnemmffdkaa
