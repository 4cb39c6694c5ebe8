import Derived.Test.YtlckgnemmffdkaaWirRrB
set_option linter.unusedVariables false
set_option linter.unusedSimpArgs false
/- The document's reader: bytes. -/
namespace Go.Proofs.Ytlckgnemmffdkaa
open Go.ChangeShapes Go.WideShapes Go.ChangeAt Go.RowKit
set_option maxRecDepth 100000

def BytesE (w : World) (v : List UInt8) (e : Ending) (w' : World) : Prop := ∃ ad k, e = .returned (.slice ad v.length k) ∧ FarRow w w' ad (v.map B) ∧ v.length ≤ k
theorem need0_link {w : World} {g c : Nat} {a : Option Addr} {bs : List UInt8} {st : Except Nat Nat} (h : Rs w g a c bs st) : Link (needP 0) bs st [] st := by
  cases st with
  | error f => rfl
  | ok p => exact Link.ok (by unfold needP; rw [if_neg (by omega)]; simp)
theorem cnt_fit {bs : List UInt8} {st : Except Nat Nat} {v q : Nat} (h : Link (countP 1) bs st v (.ok q)) : v + q ≤ bs.length ∨ v = 0 := by
  cases st with
  | error f => cases h
  | ok p =>
    unfold Link at h
    cases hc : countP 1 bs p with
    | error f => simp [hc] at h
    | ok y =>
      obtain ⟨v', q'⟩ := y
      simp only [hc] at h
      obtain ⟨rfl, hq⟩ := h
      cases hq
      have := count_le hc
      rw [Nat.div_one] at this
      omega
set_option maxHeartbeats 4000000 in
theorem bytes_rr (g c : Nat) (a : Option Addr) (bs : List UInt8) (st : Except Nat Nat) (w : World) (hl : bs.length ≤ 2000000) (h : Rs w g a c bs st) (hgl : g < w.heap.size) :
    Calls Try.prog 72 #[.pointer (some ⟨g, 0, none⟩)] w (RetRf w g a c bs bytesP st (BytesE w)) := by
  have HCT : Hid (Calls Try.prog 57 #[.pointer (some ⟨g, 0, none⟩), .int .i64 1] w (RetCt w g a c bs 1 st)) := count_rr g c 1 a bs st w hl h (by omega) (by omega)
  have HGL := Lib.hid hgl
  clear h hgl
  go_enter Try.func72, Try.ntmps72
  go_upto_region 3 with (go_at_call 57; ((with_reducible refine HCT.out.mono ?_); rintro e w1 ⟨ht, v, st1, hk, hs, rfl, h0⟩; obtain ⟨x, y, hb, hx0, hx1, hok, her⟩ := hs.at; have HOE := Lib.hid (And.intro hok (And.intro her h0)); have r0 := hb.box.cell (j := 0) rfl; have r1 := hb.box.cell (j := 1) rfl; have rz := hb.box.froz (j := 1) (by simp); have ea : g < w1.heap.size := hb.box.lt (by simp); have hcap := hb.cap; have HH := Lib.hid hb; have HT := Lib.hid ht; have HK := Lib.hid hk; have HS1 := Lib.hid hs; clear hb hs ht hk hok her h0))
  obtain ⟨m, rfl⟩ := Int.eq_ofNat_of_zero_le hx0
  have hcm : m ≤ c := by omega
  by_cases hv0 : v = 0
  · subst hv0
    have e1 : IntKind.i64.wrap (m : Int) = (m : Int) := IntWalk.i64_in _ (by omega)
    clear HOE
    cases a with
    | none =>
      go_region_law (first
        | (refine step_far el_bytes rfl (.tmp 7) (.tmp 22) rfl w1.heap.size none 0 0 [] rfl (Can.nil _ _ _ _) _ 0 _ [] rfl rfl (.inl rfl) (by intro u hu; cases hu) (by omega) (Nat.le_refl _) (fun _ _ _ h => by cases h) ?_; intro a3 c3 w3 hcan3 hg3 hn3 hf3 hl3; have HB3 := Lib.hid (⟨hg3.os, hg3.tape, hg3.output, hg3.size, fun k hk => hg3.block k hk (by simp [Value.ownBlock])⟩ : Below w1.heap.size w1 w3); have HCAN3 := Lib.hid hcan3; have HF3 := Lib.hid hf3; have hb3 := HH.out.below HB3.out; have q1 := hb3.box.cell (j := 1) rfl; have q2 := hb3.box.froz (j := 1) (by simp); have HH3 := Lib.hid hb3; clear hcan3 hg3 hn3 hf3 hl3 hb3))
      all_goals
        clear e1
        go_wp2
        rw [setCell_id q1]
        go_ret
        exact ⟨HT.out.next (Turn.below HB3.out), [], st1, Link.bind (F := fun n l q => needP n l q) HK.out (need0_link HS1.out), HS1.out.below HB3.out, a3, c3, rfl, FarRow.nil _ _ _, Nat.zero_le _⟩
    | some ad =>
      obtain ⟨b, o, s⟩ := ad
      by_cases hcn : c = m
      · subst hcn
        go_region_law (first
          | (refine step_far el_bytes rfl (.tmp 7) (.tmp 22) rfl w1.heap.size none 0 0 [] rfl (Can.nil _ _ _ _) _ 0 _ [] rfl rfl (.inl rfl) (by intro u hu; cases hu) (by omega) (Nat.le_refl _) (fun _ _ _ h => by cases h) ?_; intro a3 c3 w3 hcan3 hg3 hn3 hf3 hl3; have HB3 := Lib.hid (⟨hg3.os, hg3.tape, hg3.output, hg3.size, fun k hk => hg3.block k hk (by simp [Value.ownBlock])⟩ : Below w1.heap.size w1 w3); have HCAN3 := Lib.hid hcan3; have HF3 := Lib.hid hf3; have hb3 := HH.out.below HB3.out; have q1 := hb3.box.cell (j := 1) rfl; have q2 := hb3.box.froz (j := 1) (by simp); have HH3 := Lib.hid hb3; clear hcan3 hg3 hn3 hf3 hl3 hb3))
        all_goals
          clear e1
          go_wp2
          rw [setCell_id q1]
          go_ret
          exact ⟨HT.out.next (Turn.below HB3.out), [], st1, Link.bind (F := fun n l q => needP n l q) HK.out (need0_link HS1.out), HS1.out.below HB3.out, a3, c3, rfl, FarRow.nil _ _ _, Nat.zero_le _⟩
      · have f4 := hcn
        clear hcn
        go_region_law (first
          | (refine step_far el_bytes rfl (.tmp 7) (.tmp 22) rfl w1.heap.size none 0 0 [] rfl (Can.nil _ _ _ _) _ 0 _ [] rfl rfl (.inl rfl) (by intro u hu; cases hu) (by omega) (Nat.le_refl _) (fun _ _ _ h => by cases h) ?_; intro a3 c3 w3 hcan3 hg3 hn3 hf3 hl3; have HB3 := Lib.hid (⟨hg3.os, hg3.tape, hg3.output, hg3.size, fun k hk => hg3.block k hk (by simp [Value.ownBlock])⟩ : Below w1.heap.size w1 w3); have HCAN3 := Lib.hid hcan3; have HF3 := Lib.hid hf3; have hb3 := HH.out.below HB3.out; have q1 := hb3.box.cell (j := 1) rfl; have q2 := hb3.box.froz (j := 1) (by simp); have HH3 := Lib.hid hb3; clear hcan3 hg3 hn3 hf3 hl3 hb3))
        all_goals
          clear e1
          go_wp2
          rw [setCell_id q1]
          go_ret
          exact ⟨HT.out.next (Turn.below HB3.out), [], st1, Link.bind (F := fun n l q => needP n l q) HK.out (need0_link HS1.out), HS1.out.below HB3.out, a3, c3, rfl, FarRow.nil _ _ _, Nat.zero_le _⟩
  · replace hv0 : 0 < v := by omega
    obtain ⟨q, rfl⟩ : ∃ q, st1 = .ok q := by
      cases st1 with
      | ok q => exact ⟨q, rfl⟩
      | error f => have := HOE.out.2.2 ⟨f, rfl⟩; omega
    have hmq := (HOE.out.1 q rfl).1
    obtain rfl : m = q := by omega
    have HYY := Lib.hid (HOE.out.1 m rfl).2
    have hv : m + v ≤ bs.length := by rcases cnt_fit HK.out with h | h <;> omega
    clear HOE hmq
    obtain ⟨b, o, rfl, -⟩ := RowB.at HH.out.row (k := 0) (by omega)
    have e1 : IntKind.i64.wrap ((m : Int) + v) = ((m + v : Nat) : Int) := by rw [IntWalk.i64_in _ (by omega)]; omega
    have HDL : Hid (((bs.drop m).take v).length = v) := Lib.hid (by rw [List.length_take, List.length_drop]; omega)
    have HRW : Hid (Row w1 (some ⟨b, o + m, none⟩) (((bs.drop m).take v).map B)) := by
      have := (Row.drop HH.out.row m).take v
      rw [← List.map_drop, ← List.map_take] at this; exact this
    have f1 : (0 : Int) ≤ (m : Int) + v := by omega
    have f2 : (m : Int) + v ≤ c := by omega
    have f3 : ((m : Int) + v).toNat = m + v := by omega
    have f4 : ¬ c = m := by omega
    go_region_law (first
      | (refine step_far el_bytes rfl (.tmp 7) (.tmp 22) rfl w1.heap.size none 0 0 [] rfl (Can.nil _ _ _ _) (some ⟨b, o + m, none⟩) v (c - m) (((bs.drop m).take v).map B) rfl (by rw [List.length_map, HDL.out, Nat.mul_one]) (Row.drew HRW.out) (bytes_one _) (by omega) (Nat.le_refl _) (fun _ _ _ h => by cases h) ?_; intro a3 c3 w3 hcan3 hg3 hn3 hf3 hl3; have HB3 := Lib.hid (⟨hg3.os, hg3.tape, hg3.output, hg3.size, fun k hk => hg3.block k hk (by simp [Value.ownBlock])⟩ : Below w1.heap.size w1 w3); have HCAN3 := Lib.hid hcan3; have HF3 := Lib.hid hf3; have hb3 := HH.out.below HB3.out; have q1 := hb3.box.cell (j := 1) rfl; have q2 := hb3.box.froz (j := 1) (by simp); have HH3 := Lib.hid hb3; clear hcan3 hg3 hn3 hf3 hl3 hb3))
    all_goals
      clear e1 f1 f3 f4
      have e2 : wrap64 ((m : Int) + v) = ((m + v : Nat) : Int) := by unfold wrap64; omega
      go_wp2
      go_ret
      have hsz := HT.out.size
      refine ⟨(HT.out.next (Turn.below HB3.out)).set _ _ (.inl rfl), (bs.drop m).take v, .ok (m + v), ?_, ?_, a3, c3, ?_, ⟨?_, ?_⟩, ?_⟩
      · refine Link.bind (F := fun n l q => needP n l q) HK.out ?_
        refine Link.ok ?_
        unfold needP; rw [if_neg (by omega)]
      · refine ⟨?_, hv⟩
        have h1 := HH3.out.move ((m + v : Nat) : Int)
        have h2 := HYY.out
        subst h2
        exact h1
      · rw [HDL.out]; rfl
      · have hrow := HCAN3.out.row
        exact Row.keep hrow ((Keep.refl (fun k => k = g) _).set _ _ rfl) (fun b o s e => by have := HF3.out b o s e; omega)
      · intro _ b o s e
        have := HF3.out b o s e
        omega
      · have := HCAN3.out.le; rw [HDL.out]; omega
end Go.Proofs.Ytlckgnemmffdkaa
