/- A reader of bytes: bytes taken. -/
import Derived.Test.YtlckgnemmffdkaaWirCrC
namespace Go.Proofs.Ytlckgnemmffdkaa
open Go.ChangeShapes Go.WideShapes Go.ChangeAt Go.RowKit
set_option maxRecDepth 100000

/-- Bytes in a new row, named in a cell of the variable. -/
def IsBytes (w0 : World) (gx ox : Nat) (cs : List Value) (v : List UInt8) (w' : World) : Prop := ∃ a' c', Box w' gx (cs.set ox (.slice a' v.length c')) ∧ RowB w' a' v ∧ v.length ≤ c' ∧ ∀ b o s, a' = some ⟨b, o, s⟩ → w0.heap.size ≤ b
theorem Turn.of' {g gx : Nat} {w w' : World} (h : Keep (fun k => k = g ∨ w.heap.size ≤ k) w w') : Turn g gx w w' := h.mono fun k _ e => by rcases e with e | e; exact .inl e; exact .inr (.inr e)
theorem grown_below {w w' : World} (h : w.grownBy w' (Value.slice none 0 0).ownBlock) : Below w.heap.size w w' := ⟨h.os, h.tape, h.output, h.size, fun k hk => h.block k hk (by simp [Value.ownBlock])⟩
theorem count_le {bs : List UInt8} {size p v q : Nat} (h : countP size bs p = .ok (v, q)) : v ≤ (bs.length - q) / size := by
  unfold countP at h
  cases hs : numP bs p with
  | error e => rw [hs] at h; cases h
  | ok y =>
    obtain ⟨b, m⟩ := y
    rw [hs] at h
    simp only [bindP] at h
    split at h
    · cases h
    · simp only [Except.ok.injEq, Prod.mk.injEq] at h
      obtain ⟨rfl, rfl⟩ := h
      omega
set_option maxHeartbeats 1000000 in
theorem bytes_t (g c p gx ox : Nat) (a : Option Addr) (bs : List UInt8) (cs : List Value) (a0 : Option Addr) (n0 c0 : Nat) (w : World) (h : Cr w g a c bs p) (hl : bs.length ≤ 2000000) (hx : Box w gx cs) (hgx : Off g (rowA a bs) gx) (hox : ox < cs.length) (hv : cs[ox]? = some (.slice a0 n0 c0)) :
    Calls Try.prog 82 #[.pointer (some ⟨g, 0, none⟩), .pointer (some ⟨gx, ox, none⟩)] w (RetT w g gx cs.length a c bs (bytesP bs p) (IsBytes w gx ox cs)) := by
  have x0 := hx.cell hv
  have hgl := hx.lt (by omega)
  have HCO : Hid (Calls Try.prog 100 #[.pointer (some ⟨g, 0, none⟩), .int .i64 n0, .int .i64 1] w (RetCount w g a c bs (countP 1 bs p))) := count_t g c p 1 n0 a bs w h hl (by omega) (by omega)
  have HX := Lib.hid hx
  have HE := Lib.hid (hx.lt (by omega))
  clear h hx hv
  go_enter Try.func82, Try.ntmps82
  go_wp2_with (first
    | (have hgn := HR2; clear hgn; at_builtin; (refine wpList_near el_bytes rfl (.const (.slice none 0 0)) (.tmp 18) rfl w2.heap.size none 0 0 [] rfl (Can.nil _ _ _ _) a2 v v (((bs.drop q).take v).map B) rfl (by rw [List.length_map, HL.out, Nat.mul_one]) HR2.out (bytes_one _) (by omega) (Nat.le_refl _) ?_); intro a3 c3 w3 hcan3 hg3 hn3; have HX3 := Lib.hid (HX2.out.next (by omega) (grown_below hg3)); have x3 := HX3.out.cell (List.getElem?_eq_getElem hox); have z3 := HX3.out.froz hox; have HN3 := Lib.hid hn3; have HCAN3 := Lib.hid hcan3; have HG3 := Lib.hid (grown_below hg3); clear hcan3 hg3 hn3)
    | (go_at_call 99; ((with_reducible refine HN.out.mono ?_); rintro e w2 ⟨a2, rfl, hr2, hc2, hk2⟩; have HX2 := Lib.hid (HX1.out.keep (by omega) hk2 hgx.ne); have HC2 := Lib.hid hc2; have HR2 := Lib.hid hr2; have HK2 := Lib.hid hk2; have x2 := HX2.out.cell (List.getElem?_eq_getElem hox); have z2 := HX2.out.froz hox; clear hr2 hc2 hk2))
    | (go_at_call 100; ((with_reducible refine HCO.out.mono ?_); rintro e w1 ⟨ht, ⟨v, q, hr, rfl, hc⟩ | ⟨f, hr, rfl⟩⟩ <;> have HT1 := Lib.hid (Turn.of' (gx := gx) ht) <;> have HR := Lib.hid hr <;> have HX1 := Lib.hid (HX.out.keep (by omega) ht (by have := HE.out; have := hgx.ne; omega)) <;> clear ht; all_goals (first | (have HC1 := Lib.hid hc; have HL := Lib.hid (show ((bs.drop q).take v).length = v by have := count_le hr; rw [Nat.div_one] at this; rw [List.length_take, List.length_drop]; omega); have hv2 : v ≤ 2000000 := (by have := count_le hr; rw [Nat.div_one] at this; omega); have HN := Lib.hid (need_ok g c q v a bs w1 hc hl (by have := count_le hr; rw [Nat.div_one] at this; omega)); have x1 := HX1.out.cell (List.getElem?_eq_getElem hox); have z1 := HX1.out.froz hox; have r2 := hc.box.cell (j := 2) rfl; clear hc hr) | (clear hr)))))
  · first | go_end0 | refine bodyPost_ret (results_none rfl _ _ _) rfl ?_
    have hb := HG3.out
    have HT3 : Turn g gx w w3 := (HT1.out.next (HK2.out.turn (gx := gx) (fun k e => .inl e))).next (Turn.below hb)
    have hrow := HCAN3.out.row
    refine ⟨HT3.set _ _ (.inr (.inl rfl)), .inl ⟨_, _, by (show bindP _ _ = _); rw [HR.out]; (show needP _ _ _ = _); unfold needP; rw [if_neg (by have := count_le HR.out; rw [Nat.div_one] at this; omega)], rfl, (HC2.out.below hb).keep ((Keep.refl (fun k => k = gx) _).set _ _ rfl) (fun k e => by subst e; exact hgx), a3, c3, ?_, ?_, ?_, ?_⟩⟩
    · rw [HL.out]; exact HX3.out.set hox _
    · have hnf : ∀ b o s, a3 = some ⟨b, o, s⟩ → ¬ b = gx := fun b o s e => by
        rcases HN3.out b o s e with h1 | ⟨o', s', h1⟩
        · have := HX2.out.lt (by omega); omega
        · cases h1
      exact Row.keep hrow ((Keep.refl (fun k => k = gx) _).set _ _ rfl) hnf
    · have := HCAN3.out.le; rw [HL.out]; omega
    · intro b o s e
      rcases HN3.out b o s e with h1 | ⟨o', s', h1⟩
      · exact Nat.le_trans HT1.out.size (Nat.le_trans HK2.out.size h1)
      · cases h1
  · exact ⟨rfl, HT1.out, .inr ⟨_, by (show bindP _ _ = _); rw [HR.out]; rfl, rfl, .of HX1.out rfl⟩⟩
end Go.Proofs.Ytlckgnemmffdkaa
