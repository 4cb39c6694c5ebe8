import Derived.Test.YtoofmofaimdhpaaPackA3
import Derived.Test.YtoofmofaimdhpaaPackLedgerCap1
import Derived.Test.YtoofmofaimdhpaaRefCheckSt
import Derived.Test.YtoofmofaimdhpaaPackA5
import Derived.Test.YtoofmofaimdhpaaLedGrantOk
import Derived.Deep.Cut
import Derived.Deep.RegionHeld3
set_option linter.unusedVariables false
set_option linter.unusedSimpArgs false
namespace Go.Proofs.Ytoofmofaimdhpaa
open Go.ChangeShapes Go.WideShapes Go.ChangeAt Go.RowKit
set_option maxRecDepth 100000

set_option maxHeartbeats 4000000 in
theorem refswept_st (s : St) (r : Raw) (B : Nat) (w : World) (h : StAt w B r s) (hfit : Fits s.leas) (hl1 : s.tens.length ≤ 900) (hl2 : s.leas.length ≤ 900) (hB : B ≤ w.heap.size) :
    Calls Try.prog 39 #[r.agg] w (RetSt w B (sweptS s)) := by
  obtain ⟨term, stamp, next, ⟨a1, n1, c1⟩, ⟨a2, n2, c2⟩, ⟨a3, n3, c3⟩, ⟨a4, n4, c4⟩⟩ := r
  have HS := Lib.hid h
  have HOU := Lib.hid (fun id w' (hb : Below w.heap.size w w') => refout_any s.leas ⟨term, stamp, next, ⟨a1, n1, c1⟩, ⟨a2, n2, c2⟩, ⟨a3, n3, c3⟩, ⟨a4, n4, c4⟩⟩ id w' h.lea.len (by omega) hfit (h.lea.row.below hb))
  have HSW := Lib.hid (fun b m d w' (hb : Below w.heap.size w w') (hm : (outsL s.leas).length = m) (hro : Row w' b ((outsL s.leas).map (Value.int .i64))) => refsweep_any s.tens (outsL s.leas) a1 b n1 c1 m d w' h.ten.len hm hl1 (by rw [← hm, outsL_length]; omega) h.ten.nil h.ten.le (Row.below h.trow hb) hro)
  have HSE : Hid (∀ l, sweepS s.tens (outsL s.leas) = l → sweptS s = { s with tens := l }) := fun l e => by unfold sweptS; rw [e]
  have HBX : Hid (∀ w', Below (w.heap.size + 2) ((w.alloc (.cells #[.int .i64 term, .int .i64 stamp, .int .i64 next, .slice a1 n1 c1, .slice a2 n2 c2, .slice a3 n3 c3, .slice a4 n4 c4] 27)).alloc (.cells #[.int .i64 0, .int .i64 0, .int .i64 0, .slice none 0 0, .slice none 0 0, .slice none 0 0, .slice none 0 0] 27)) w' →
      Box w' w.heap.size (Raw.cells ⟨term, stamp, next, ⟨a1, n1, c1⟩, ⟨a2, n2, c2⟩, ⟨a3, n3, c3⟩, ⟨a4, n4, c4⟩⟩) ∧ Box w' (w.heap.size + 1) (Raw.cells ⟨0, 0, 0, ⟨none, 0, 0⟩, ⟨none, 0, 0⟩, ⟨none, 0, 0⟩, ⟨none, 0, 0⟩⟩) ∧ w.heap.size + 2 ≤ w'.heap.size) :=
    fun w' hb0 => by
      have hb : Below ((w.alloc (.cells #[.int .i64 term, .int .i64 stamp, .int .i64 next, .slice a1 n1 c1, .slice a2 n2 c2, .slice a3 n3 c3, .slice a4 n4 c4] 27)).alloc (.cells #[.int .i64 0, .int .i64 0, .int .i64 0, .slice none 0 0, .slice none 0 0, .slice none 0 0, .slice none 0 0] 27)).heap.size ((w.alloc (.cells #[.int .i64 term, .int .i64 stamp, .int .i64 next, .slice a1 n1 c1, .slice a2 n2 c2, .slice a3 n3 c3, .slice a4 n4 c4] 27)).alloc (.cells #[.int .i64 0, .int .i64 0, .int .i64 0, .slice none 0 0, .slice none 0 0, .slice none 0 0, .slice none 0 0] 27)) w' := by rw [show ((w.alloc (.cells #[.int .i64 term, .int .i64 stamp, .int .i64 next, .slice a1 n1 c1, .slice a2 n2 c2, .slice a3 n3 c3, .slice a4 n4 c4] 27)).alloc (.cells #[.int .i64 0, .int .i64 0, .int .i64 0, .slice none 0 0, .slice none 0 0, .slice none 0 0, .slice none 0 0] 27)).heap.size = w.heap.size + 2 from by simp]; exact hb0
      exact ⟨Box.of_alloc (mid_alloc' hb), Box.of_alloc1 hb, by have := hb.size; simp at this; omega⟩
  clear h hfit
  go_enter Try.func39, Try.ntmps39
  go_wp2
  go_loopw [3, 4] (fun l i wr => ∃ k : Nat, ∃ a c, k ≤ 16 ∧ i = .int .i64 ((k : Int) + 1) ∧ l = .slice a k c ∧ Hid (wr.ownsRow (w.heap.size + 2) 3 1 (.slice a k c) k ((outsK s.leas k).map (Value.int .i64))) ∧ Below (w.heap.size + 2) ((w.alloc (.cells #[.int .i64 term, .int .i64 stamp, .int .i64 next, .slice a1 n1 c1, .slice a2 n2 c2, .slice a3 n3 c3, .slice a4 n4 c4] 27)).alloc (.cells #[.int .i64 0, .int .i64 0, .int .i64 0, .slice none 0 0, .slice none 0 0, .slice none 0 0, .slice none 0 0] 27)) wr) (fun _ i _ => 17 - (intOf i).toNat)
  case atStart => exact ⟨0, none, 0, by omega, rfl, rfl, World.ownsRow_nil _ _ _ _, Below.refl _ _⟩
  case round =>
    obtain ⟨k, a, c, hk, rfl, rfl, hown, hb0⟩ := hrel
    have hb : Below w.heap.size w wr := ((show Below w.heap.size w ((w.alloc (.cells #[.int .i64 term, .int .i64 stamp, .int .i64 next, .slice a1 n1 c1, .slice a2 n2 c2, .slice a3 n3 c3, .slice a4 n4 c4] 27)).alloc (.cells #[.int .i64 0, .int .i64 0, .int .i64 0, .slice none 0 0, .slice none 0 0, .slice none 0 0, .slice none 0 0] 27)) from (by repeat' (first | (with_reducible exact Below.refl _ _) | (with_reducible assumption) | (with_reducible refine Below.drew ?_) | (with_reducible refine Below.more ?_ _) | (with_reducible refine Below.put ?_ ?_ _) | (with_reducible refine Below.next ?_ (by with_reducible assumption)) | (with_reducible exact Nat.le_refl _) | (with_reducible refine Below.size' ?_) | omega)))).trans (hb0.mono (by omega))
    have HXR := Lib.hid (HBX.out wr hb0)
    have hsz := HXR.out.2.2
    have HB0 := Lib.hid hb0
    by_cases hlt : k < 16
    · have hlt' : ((k : Int) + 1 ≤ 16) := by omega
      have HS1 := Lib.hid (outsK_succ s.leas k)
      have HO1 := Lib.hid (HOU.out ((k : Int) + 1))
      generalize outL s.leas ((k : Int) + 1) = z at HS1 HO1
      go_wp2_with (first
        | (refine wpList_load_as laySt rfl (.tmp 1) rfl w.heap.size 0 rfl ⟨term, stamp, next, ⟨a1, n1, c1⟩, ⟨a2, n2, c2⟩, ⟨a3, n3, c3⟩, ⟨a4, n4, c4⟩⟩ (.agg #[.int .i64 term, .int .i64 stamp, .int .i64 next, .slice a1 n1 c1, .slice a2 n2 c2, .slice a3 n3 c3, .slice a4 n4 c4]) rfl HXR.out.1.range ?_)
        | (go_at_call 18; ((with_reducible refine (HO1.out wr hb).mono ?_); rintro e w3 ⟨rfl, hb3⟩; have hsz3 := hb3.size; have HW3 := Lib.hid (own_mid hown.out (Mid.below hb3 (Nat.le_refl _) : Mid 0 wr.heap.size wr w3) (Nat.zero_le _) (Nat.le_refl _)); have HB3 := Lib.hid (HB0.out.trans (hb3.mono (by omega)))))
        | (at_builtin; refine wpList_app el_ints rfl _ _ rfl (w.heap.size + 2) _ k _ rfl (HW3.out.alloc _) (some ⟨w3.heap.size, 0, none⟩) 1 1 [.int .i64 z] rfl rfl (Row.new _ _ _ _) (by intro u hu; simp at hu; subst hu; rfl) (by omega) (by simp; omega) ?_; intro a2' c2' w4 hown4 hg4; have hb4 := Below.app (HB3.out.alloc (by omega) _) (HW3.out.alloc _) hg4 (by simp; omega); have HO4 := Lib.hid hown4; have HB4 := Lib.hid hb4; clear hg4 hown4 hb4))
      go_roundw
      case rel => exact ⟨k + 1, a2', c2', by omega, by go_num, rfl, by show World.ownsRow _ _ _ _ _ _ _; rw [HS1.out, List.map_append]; exact HO4.out, HB4.out⟩
      case measure => simp [intOf]; omega
    · obtain rfl : k = 16 := by omega
      have k3 := HXR.out.1.cell (j := 3) rfl
      obtain ⟨l, hl⟩ : ∃ l, sweepS s.tens (outsL s.leas) = l := ⟨_, rfl⟩
      have HL := Lib.hid hl
      clear hl
      go_wp2_with (first
        | (go_at_call 72; ((with_reducible refine (HSW.out a 16 c wr hb (outsL_length _) (by rw [← outsK_all]; exact own_row hown.out)).mono ?_); rw [HL.out]; rintro e w5 ⟨x1, y1, rfl, hle5, hnil5, hnear5, hrow5, hb5⟩; have K5 := Lib.hid (And.intro hle5 (And.intro hnil5 hrow5)); have hN5 := Lib.hid hnear5; clear hle5 hnil5 hnear5 hrow5; have HX5 := Lib.hid (HXR.out.1.next (by simp) hb5); have HZ5 := Lib.hid (HXR.out.2.1.next (by simp) hb5); have q5 := hb5.size; clear k3))
        | (refine wpList_store_field rfl (.tmp 21) (.tmp 20) rfl size1_slice.2.1 w.heap.size 3 _ (.slice x1 l.length y1) rfl rfl rfl rfl HX5.out (by simp) ?_; intro w6 hbx6 hw6; have HX6 : Hid (Box w6 w.heap.size (Raw.cells ⟨term, stamp, next, ⟨x1, l.length, y1⟩, ⟨a2, n2, c2⟩, ⟨a3, n3, c3⟩, ⟨a4, n4, c4⟩⟩)) := hbx6; have HW6 := Lib.hid hw6; have HZ6 := Lib.hid (HZ5.out.wrote hw6 (by omega)); have q6 := hw6.size; clear hbx6 hw6)
        | (refine wpList_load_as laySt rfl (.tmp 1) rfl w.heap.size 0 rfl ⟨term, stamp, next, ⟨x1, l.length, y1⟩, ⟨a2, n2, c2⟩, ⟨a3, n3, c3⟩, ⟨a4, n4, c4⟩⟩ (.agg #[.int .i64 term, .int .i64 stamp, .int .i64 next, .slice x1 l.length y1, .slice a2 n2 c2, .slice a3 n3 c3, .slice a4 n4 c4]) rfl HX6.out.range ?_)
        | (refine wpList_store_whole laySt rfl (.tmp 2) (.tmp 22) rfl (w.heap.size + 1) ⟨term, stamp, next, ⟨x1, l.length, y1⟩, ⟨a2, n2, c2⟩, ⟨a3, n3, c3⟩, ⟨a4, n4, c4⟩⟩ _ rfl rfl HZ6.out rfl ?_; intro w7 hbx7 hw7; have HX7 := Lib.hid hbx7; have HW7 := Lib.hid hw7; clear hbx7 hw7))
      have b5 : Below w.heap.size w w5 := hb.trans (hb5.mono (by omega))
      have b7 : Below w.heap.size w w7 := (b5.trans (HW6.out.below _ (Nat.le_refl _))).trans (HW7.out.below _ (by omega))
      obtain ⟨k0, k1, k2, k3, k4, k5, k6⟩ := cellsSt0 HX7.out.range
      refine bodyPost_ret (v := .agg #[.int .i64 term, .int .i64 stamp, .int .i64 next, .slice x1 l.length y1, .slice a2 n2 c2, .slice a3 n3 c3, .slice a4 n4 c4]) (by simp [results, Try.results39, go_sem, k0, k1, k2, k3, k4, k5, k6]) rfl ?_
      have i7 := (HS.out.below b7)
      refine ⟨⟨term, stamp, next, ⟨x1, l.length, y1⟩, ⟨a2, n2, c2⟩, ⟨a3, n3, c3⟩, ⟨a4, n4, c4⟩⟩, rfl, ?_, b7⟩
      rw [HSE.out l HL.out]
      refine ⟨i7.term, i7.stamp, i7.next, ⟨rfl, K5.out.1, K5.out.2.1, HS.out.ten.near.trans (hN5.out.mono (by omega)), ?_⟩, i7.lea, i7.ses, i7.dsk⟩
      -- the row of tenants is read behind the two writes into the variables
      have hr5 : LRow layTen w5 x1 l := K5.out.2.2
      by_cases h0 : l = []
      · rw [h0]; exact .inl rfl
      · have hpos : l.flatMap layTen.cells ≠ [] := by
          intro h1
          have h2 := congrArg List.length h1
          rw [layTen.length, List.length_nil] at h2
          rcases Nat.mul_eq_zero.1 h2 with h3 | h3
          · exact h0 (List.eq_nil_of_length_eq_zero h3)
          · cases h3
        rcases hr5 with h | ⟨b, o, ha, hc⟩
        · exact absurd h hpos
        · have hlen : l.length ≤ s.tens.length := by rw [← HL.out]; exact sweepS_length _ _
          have hne : b ≠ w.heap.size ∧ b ≠ w.heap.size + 1 := by
            rcases hN5.out b o none ha with h1 | ⟨o', q', h1⟩
            · omega
            · have h2 : b < w.heap.size := by
                have h4 := HS.out.ten.row
                rw [show (Raw.ten ⟨term, stamp, next, ⟨a1, n1, c1⟩, ⟨a2, n2, c2⟩, ⟨a3, n3, c3⟩, ⟨a4, n4, c4⟩⟩).a = a1 from rfl, h1] at h4
                rcases h4 with h5 | ⟨b2, o2, e2, _⟩
                · exfalso
                  have h6 := congrArg List.length h5
                  rw [layTen.length, List.length_nil] at h6
                  have h7 : s.tens.length = 0 := by rcases Nat.mul_eq_zero.1 h6 with h3 | h3; exact h3; cases h3
                  exact h0 (List.eq_nil_of_length_eq_zero (by omega))
                · rw [e2] at h1
                  have h8 := HS.out.ten.row
                  simp only [Option.some.injEq, Addr.mk.injEq] at e2
                  obtain ⟨rfl, rfl, rfl⟩ := e2
                  simp only at h8
                  rw [show a1 = some ⟨b, o', none⟩ from by assumption] at h8
                  refine Row.lt h8 ?_
                  intro h6
                  have h6 := congrArg List.length h6
                  rw [layTen.length, List.length_nil] at h6
                  have h7 : s.tens.length = 0 := by rcases Nat.mul_eq_zero.1 h6 with h3 | h3; exact h3; cases h3
                  exact h0 (List.eq_nil_of_length_eq_zero (by omega))
              omega
          exact .inr ⟨b, o, ha, fun i hi => by rw [World.cell?_of_block (w := w5) ((HW7.out.keep b hne.2).trans (HW6.out.keep b hne.1))]; exact hc i hi⟩
end Go.Proofs.Ytoofmofaimdhpaa

namespace Go.Proofs.Ytoofmofaimdhpaa
open Go.ChangeShapes Go.WideShapes Go.ChangeAt Go.RowKit
set_option maxRecDepth 100000

theorem size1_more : (Try.prog.info? 24).map (·.size) = some 1 ∧ (Try.prog.info? 25).map (·.size) = some 1 := ⟨by kernel_rfl, by kernel_rfl⟩
/-- A row out of append(nil, xs...). -/
structure FreshRow {P : Program} {e : TypeId} {α : Type} (L : Lay P e α) (w : World) (E : Nat) (a : Option Addr) (c : Nat) (xs : List α) : Prop where
  near : Near E none a
  can : Can w E e L.size a xs.length c (xs.flatMap L.cells)
  own : 0 < xs.length → w.ownsRow E e L.size (.slice a xs.length c) xs.length (xs.flatMap L.cells)
  lt : ∀ b o q, a = some ⟨b, o, q⟩ → b < w.heap.size
theorem FreshRow.of {P : Program} {e : TypeId} {α : Type} {L : Lay P e α} {w : World} {E : Nat} {a : Option Addr} {c n : Nat} {xs : List α} (hn : xs.length = n) (hcan : Can w E e L.size a (0 + n) c ([] ++ xs.flatMap L.cells))
    (hown : (0 < n → w.ownsRow E e L.size (.slice a (0 + n) c) (0 + n) ([] ++ xs.flatMap L.cells)) ∧ (n = 0 → a = none ∧ c = 0)) : FreshRow L w E a c xs := by
  subst hn
  rw [Nat.zero_add, List.nil_append] at hcan hown
  refine ⟨?_, hcan, hown.1, ?_⟩
  · by_cases h0 : 0 < xs.length
    · exact Near.own (hown.1 h0) (Nat.le_refl _)
    · rw [(hown.2 (by omega)).1]; exact Near.nil _ _
  · intro b o q e
    by_cases h0 : 0 < xs.length
    · exact ((hown.1 h0).lt b (by rw [e]; rfl)).2
    · rw [(hown.2 (by omega)).1] at e; cases e
theorem FreshRow.sli {P : Program} {e : TypeId} {α : Type} {L : Lay P e α} {w w' : World} {E B0 : Nat} {a : Option Addr} {c : Nat} {xs : List α} (h : FreshRow L w E a c xs) (hm : Mid B0 w.heap.size w w') (hB : B0 ≤ E) (hp : 0 < L.size) {B : Nat} (hB2 : B ≤ E) :
    SliAt L w' B ⟨a, xs.length, c⟩ xs ∧ OwnSli L w' B ⟨a, xs.length, c⟩ xs :=
  ⟨((SliAt.of_clone hp h.near h.can).mid hm hB (Nat.le_refl _)).mono hB2, ((⟨h.can, h.own⟩ : OwnSli L w E ⟨a, xs.length, c⟩ xs).mid h.near hm hB (Nat.le_refl _)).base hB2⟩

theorem refcopy_fin {w w1 w2 w3 w4 w5 w6 w7 w8 w9 w10 : World} {term stamp next : Int} {ts : List Tenant} {ls : List Lease} {ss : List Session} {ds : List Desk} {x1 x2 x3 x4 : Option Addr} {y1 y2 y3 y4 : Nat}
    (hW : w.heap.size + 3 ≤ w1.heap.size) (K1 : FreshRow layTen w2 w1.heap.size x1 y1 ts) (b12 : Below w1.heap.size w1 w2) (h3 : Wrote (w.heap.size + 1 + 1) w2 w3)
    (K2 : FreshRow layLea w4 w3.heap.size x2 y2 ls) (b34 : Below w3.heap.size w3 w4) (h5 : Wrote (w.heap.size + 1 + 1) w4 w5) (K3 : FreshRow laySes w6 w5.heap.size x3 y3 ss) (b56 : Below w5.heap.size w5 w6) (h7 : Wrote (w.heap.size + 1 + 1) w6 w7)
    (K4 : FreshRow layDsk w8 w7.heap.size x4 y4 ds) (b78 : Below w7.heap.size w7 w8) (h9 : Wrote (w.heap.size + 1 + 1) w8 w9) (h10 : Wrote (w.heap.size + 1) w9 w10) (hb : Below w.heap.size w w10) :
    RetCopy w ⟨term, stamp, next, ts, ls, ss, ds⟩ (.returned (.agg #[.int .i64 term, .int .i64 stamp, .int .i64 next, .slice x1 ts.length y1, .slice x2 ls.length y2, .slice x3 ss.length y3, .slice x4 ds.length y4])) w10 := by
  have s2 := b12.size
  have s3 := h3.size
  have s4 := b34.size
  have s5 := h5.size
  have s6 := b56.size
  have s7 := h7.size
  have s8 := b78.size
  have m8 : ∀ E, E ≤ w8.heap.size → Mid (w.heap.size + 3) E w8 w10 := fun E _ => ((Mid.refl _ _ _).wrote h9 (.inl (by omega))).wrote h10 (.inl (by omega))
  have m6 : ∀ E, E ≤ w6.heap.size → Mid (w.heap.size + 3) E w6 w10 := fun E hE => (((Mid.refl _ _ _).wrote h7 (.inl (by omega))).next b78 (by omega)).trans (m8 E (by omega))
  have m4 : ∀ E, E ≤ w4.heap.size → Mid (w.heap.size + 3) E w4 w10 := fun E hE => (((Mid.refl _ _ _).wrote h5 (.inl (by omega))).next b56 (by omega)).trans (m6 E (by omega))
  have m2 : ∀ E, E ≤ w2.heap.size → Mid (w.heap.size + 3) E w2 w10 := fun E hE => (((Mid.refl _ _ _).wrote h3 (.inl (by omega))).next b34 (by omega)).trans (m4 E (by omega))
  obtain ⟨S1, O1⟩ := K1.sli (m2 _ (Nat.le_refl _)) hW (by decide) (B := w.heap.size) (by omega)
  obtain ⟨S2, O2⟩ := K2.sli (m4 _ (Nat.le_refl _)) (by omega) (by decide) (B := w.heap.size) (by omega)
  obtain ⟨S3, _⟩ := K3.sli (m6 _ (Nat.le_refl _)) (by omega) (by decide) (B := w.heap.size) (by omega)
  obtain ⟨S4, _⟩ := K4.sli (m8 _ (Nat.le_refl _)) (by omega) (by decide) (B := w.heap.size) (by omega)
  exact ⟨⟨term, stamp, next, ⟨x1, ts.length, y1⟩, ⟨x2, ls.length, y2⟩, ⟨x3, ss.length, y3⟩, ⟨x4, ds.length, y4⟩⟩, rfl, ⟨⟨rfl, rfl, rfl, S1, S2, S3, S4⟩, O1, O2, Ap.of K1.lt K2.near (by omega), Ap.of K1.lt K3.near (by omega), Ap.of K1.lt K4.near (by omega), Ap.of K2.lt K3.near (by omega), Ap.of K2.lt K4.near (by omega), fun x o q e => by have := K2.lt x o q e; have := (m4 0 (by omega)).size; omega⟩, hb⟩

set_option maxHeartbeats 8000000 in
theorem refcopy_st (s : St) (r : Raw) (B : Nat) (w : World) (h : StAt w B r s) (hl1 : s.tens.length ≤ 900) (hl2 : s.leas.length ≤ 900) (hl3 : s.sess.length ≤ 900) (hl4 : s.dsks.length ≤ 900) :
    Calls Try.prog 37 #[r.agg] w (RetCopy w s) := by
  obtain ⟨term, stamp, next, ⟨a1, n1, c1⟩, ⟨a2, n2, c2⟩, ⟨a3, n3, c3⟩, ⟨a4, n4, c4⟩⟩ := r
  obtain ⟨term', stamp', nx, ts, ls, ss, ds⟩ := s
  have hq1 := h.term
  have hq2 := h.stamp
  have hq3 := h.next
  have l1 := h.ten.len
  have l2 := h.lea.len
  have l3 := h.ses.len
  have l4 := h.dsk.len
  have R1 := Lib.hid h.ten.row
  have R2 := Lib.hid h.lea.row
  have R3 := Lib.hid h.ses.row
  have R4 := Lib.hid h.dsk.row
  simp only at hq1 hq2 hq3 hl1 hl2 hl3 hl4 l1 l2 l3 l4
  subst hq1
  subst hq2
  subst hq3
  subst l1
  subst l2
  subst l3
  subst l4
  clear h
  have HBX : Hid (∀ w', Below (w.heap.size + 2) ((w.alloc (.cells #[.int .i64 term, .int .i64 stamp, .int .i64 next, .slice a1 ts.length c1, .slice a2 ls.length c2, .slice a3 ss.length c3, .slice a4 ds.length c4] 27)).alloc (.cells #[.int .i64 0, .int .i64 0, .int .i64 0, .slice none 0 0, .slice none 0 0, .slice none 0 0, .slice none 0 0] 27)) w' → Box w' w.heap.size (Raw.cells ⟨term, stamp, next, ⟨a1, ts.length, c1⟩, ⟨a2, ls.length, c2⟩, ⟨a3, ss.length, c3⟩, ⟨a4, ds.length, c4⟩⟩) ∧ Box w' (w.heap.size + 1) (Raw.cells ⟨0, 0, 0, ⟨none, 0, 0⟩, ⟨none, 0, 0⟩, ⟨none, 0, 0⟩, ⟨none, 0, 0⟩⟩)) := fun w' hb0 => by
      have hb : Below ((w.alloc (.cells #[.int .i64 term, .int .i64 stamp, .int .i64 next, .slice a1 ts.length c1, .slice a2 ls.length c2, .slice a3 ss.length c3, .slice a4 ds.length c4] 27)).alloc (.cells #[.int .i64 0, .int .i64 0, .int .i64 0, .slice none 0 0, .slice none 0 0, .slice none 0 0, .slice none 0 0] 27)).heap.size ((w.alloc (.cells #[.int .i64 term, .int .i64 stamp, .int .i64 next, .slice a1 ts.length c1, .slice a2 ls.length c2, .slice a3 ss.length c3, .slice a4 ds.length c4] 27)).alloc (.cells #[.int .i64 0, .int .i64 0, .int .i64 0, .slice none 0 0, .slice none 0 0, .slice none 0 0, .slice none 0 0] 27)) w' := by rw [show ((w.alloc (.cells #[.int .i64 term, .int .i64 stamp, .int .i64 next, .slice a1 ts.length c1, .slice a2 ls.length c2, .slice a3 ss.length c3, .slice a4 ds.length c4] 27)).alloc (.cells #[.int .i64 0, .int .i64 0, .int .i64 0, .slice none 0 0, .slice none 0 0, .slice none 0 0, .slice none 0 0] 27)).heap.size = w.heap.size + 2 from by simp]; exact hb0
      exact ⟨Box.of_alloc (mid_alloc' hb), Box.of_alloc1 hb⟩
  have hbw : Below w.heap.size w ((w.alloc (.cells #[.int .i64 term, .int .i64 stamp, .int .i64 next, .slice a1 ts.length c1, .slice a2 ls.length c2, .slice a3 ss.length c3, .slice a4 ds.length c4] 27)).alloc (.cells #[.int .i64 0, .int .i64 0, .int .i64 0, .slice none 0 0, .slice none 0 0, .slice none 0 0, .slice none 0 0] 27)) := (by repeat' (first | (with_reducible exact Below.refl _ _) | (with_reducible assumption) | (with_reducible refine Below.drew ?_) | (with_reducible refine Below.more ?_ _) | (with_reducible refine Below.put ?_ ?_ _) | (with_reducible refine Below.next ?_ (by with_reducible assumption)) | (with_reducible exact Nat.le_refl _) | (with_reducible refine Below.size' ?_) | omega))
  have BW := Lib.hid hbw
  go_enter Try.func37, Try.ntmps37
  go_wp2_with (first
    | (refine wpList_load_as laySt rfl (.tmp 1) rfl w.heap.size 0 rfl ⟨term, stamp, next, ⟨a1, ts.length, c1⟩, ⟨a2, ls.length, c2⟩, ⟨a3, ss.length, c3⟩, ⟨a4, ds.length, c4⟩⟩ (.agg #[.int .i64 term, .int .i64 stamp, .int .i64 next, .slice a1 ts.length c1, .slice a2 ls.length c2, .slice a3 ss.length c3, .slice a4 ds.length c4]) rfl (HBX.out _ (Below.refl _ _)).1.range ?_)
    | (refine wpList_store_whole laySt rfl (.tmp 3) (.tmp 4) rfl (w.heap.size + 1 + 1) ⟨term, stamp, next, ⟨a1, ts.length, c1⟩, ⟨a2, ls.length, c2⟩, ⟨a3, ss.length, c3⟩, ⟨a4, ds.length, c4⟩⟩ (Raw.cells ⟨0, 0, 0, ⟨none, 0, 0⟩, ⟨none, 0, 0⟩, ⟨none, 0, 0⟩, ⟨none, 0, 0⟩⟩) rfl rfl (Box.of_alloc2 (Below.refl _ _)) rfl ?_; intro v1 hbx hw; have V1 : Hid (Box v1 (w.heap.size + 1 + 1) (Raw.cells ⟨term, stamp, next, ⟨a1, ts.length, c1⟩, ⟨a2, ls.length, c2⟩, ⟨a3, ss.length, c3⟩, ⟨a4, ds.length, c4⟩⟩)) := hbx; have q1 : v1.heap.size = w.heap.size + 3 := by { rw [hw.size]; simp }; have BB1 : Hid (Below (w.heap.size + 2) ((w.alloc (.cells #[.int .i64 term, .int .i64 stamp, .int .i64 next, .slice a1 ts.length c1, .slice a2 ls.length c2, .slice a3 ss.length c3, .slice a4 ds.length c4] 27)).alloc (.cells #[.int .i64 0, .int .i64 0, .int .i64 0, .slice none 0 0, .slice none 0 0, .slice none 0 0, .slice none 0 0] 27)) v1) := ((Below.refl _ _).alloc (by simp) _).trans (hw.below _ (Nat.le_refl _)); clear hbx hw)
    | (refine wpList_store_field rfl (.tmp 5) (.const (.slice none 0 0)) rfl size1_slice.2.1 (w.heap.size + 1 + 1) 3 _ (.slice none 0 0) rfl rfl rfl rfl V1.out (by simp) ?_; intro v2 hbx hw; have V2 : Hid (Box v2 (w.heap.size + 1 + 1) (Raw.cells ⟨term, stamp, next, ⟨none, 0, 0⟩, ⟨a2, ls.length, c2⟩, ⟨a3, ss.length, c3⟩, ⟨a4, ds.length, c4⟩⟩)) := hbx; have BB2 := Lib.hid (BB1.out.trans (hw.below _ (Nat.le_refl _))); have q2 := hw.size; clear hbx hw)
    | (refine wpList_store_field rfl (.tmp 6) (.const (.slice none 0 0)) rfl size1_slice.1 (w.heap.size + 1 + 1) 4 _ (.slice none 0 0) rfl rfl rfl rfl V2.out (by simp) ?_; intro v3 hbx hw; have V3 : Hid (Box v3 (w.heap.size + 1 + 1) (Raw.cells ⟨term, stamp, next, ⟨none, 0, 0⟩, ⟨none, 0, 0⟩, ⟨a3, ss.length, c3⟩, ⟨a4, ds.length, c4⟩⟩)) := hbx; have BB3 := Lib.hid (BB2.out.trans (hw.below _ (Nat.le_refl _))); have q3 := hw.size; clear hbx hw)
    | (refine wpList_store_field rfl (.tmp 7) (.const (.slice none 0 0)) rfl size1_more.1 (w.heap.size + 1 + 1) 5 _ (.slice none 0 0) rfl rfl rfl rfl V3.out (by simp) ?_; intro v4 hbx hw; have V4 : Hid (Box v4 (w.heap.size + 1 + 1) (Raw.cells ⟨term, stamp, next, ⟨none, 0, 0⟩, ⟨none, 0, 0⟩, ⟨none, 0, 0⟩, ⟨a4, ds.length, c4⟩⟩)) := hbx; have BB4 := Lib.hid (BB3.out.trans (hw.below _ (Nat.le_refl _))); have q4 := hw.size; clear hbx hw)
    | (refine wpList_store_field rfl (.tmp 8) (.const (.slice none 0 0)) rfl size1_more.2 (w.heap.size + 1 + 1) 6 _ (.slice none 0 0) rfl rfl rfl rfl V4.out (by simp) ?_; intro v5 hbx hw; have V5 : Hid (Box v5 (w.heap.size + 1 + 1) (Raw.cells ⟨term, stamp, next, ⟨none, 0, 0⟩, ⟨none, 0, 0⟩, ⟨none, 0, 0⟩, ⟨none, 0, 0⟩⟩)) := hbx; have BB5 := Lib.hid (BB4.out.trans (hw.below _ (Nat.le_refl _))); have q5 := hw.size; have k3 := V5.out.cell (j := 3) rfl; have m3 := (HBX.out v5 BB5.out).1.cell (j := 3) rfl; clear hbx hw)
    | (at_builtin; refine wpList_can (layTen.elem Try.underlying22) rfl (.tmp 10) (.tmp 12) rfl v5.heap.size none 0 0 [] rfl (Can.nil _ _ _ _) _ ts.length _ (ts.flatMap layTen.cells) rfl (layTen.length _) (R1.out.below (BW.out.trans (BB5.out.mono (by omega)))) (layTen.ones _) (by show (0 + ts.length) * 40 ≤ _; omega) (Nat.le_refl _) ?_; intro x1 y1 v6 hcan hg hbb hown; have K1 := Lib.hid (FreshRow.of rfl hcan hown); have b1 := Lib.hid hbb; have V6 := Lib.hid (V5.out.below hbb (by omega)); have BB6 := Lib.hid (BB5.out.trans (hbb.mono (by omega))); have q6 := hbb.size; clear hcan hg hbb hown k3 m3)
    | (refine wpList_store_field rfl (.tmp 14) (.tmp 13) rfl size1_slice.2.1 (w.heap.size + 1 + 1) 3 _ (.slice x1 ts.length y1) rfl rfl rfl rfl V6.out (show 3 < 7 by decide) ?_; intro v7 hbx hw; have V7 : Hid (Box v7 (w.heap.size + 1 + 1) (Raw.cells ⟨term, stamp, next, ⟨x1, ts.length, y1⟩, ⟨none, 0, 0⟩, ⟨none, 0, 0⟩, ⟨none, 0, 0⟩⟩)) := hbx; have BB7 := Lib.hid (BB6.out.trans (hw.below _ (Nat.le_refl _))); have q7 := hw.size; have H1 := Lib.hid hw; have k3 := V7.out.cell (j := 4) rfl; have m3 := (HBX.out v7 BB7.out).1.cell (j := 4) rfl; clear hbx hw)
    | (at_builtin; refine wpList_can (layLea.elem Try.underlying23) rfl (.tmp 16) (.tmp 18) rfl v7.heap.size none 0 0 [] rfl (Can.nil _ _ _ _) _ ls.length _ (ls.flatMap layLea.cells) rfl (layLea.length _) (R2.out.below (BW.out.trans (BB7.out.mono (by omega)))) (layLea.ones _) (by show (0 + ls.length) * 56 ≤ _; omega) (Nat.le_refl _) ?_; intro x2 y2 v8 hcan hg hbb hown; have K2 := Lib.hid (FreshRow.of rfl hcan hown); have b2 := Lib.hid hbb; have V8 := Lib.hid (V7.out.below hbb (by omega)); have BB8 := Lib.hid (BB7.out.trans (hbb.mono (by omega))); have q8 := hbb.size; clear hcan hg hbb hown k3 m3)
    | (refine wpList_store_field rfl (.tmp 20) (.tmp 19) rfl size1_slice.1 (w.heap.size + 1 + 1) 4 _ (.slice x2 ls.length y2) rfl rfl rfl rfl V8.out (show 4 < 7 by decide) ?_; intro v9 hbx hw; have V9 : Hid (Box v9 (w.heap.size + 1 + 1) (Raw.cells ⟨term, stamp, next, ⟨x1, ts.length, y1⟩, ⟨x2, ls.length, y2⟩, ⟨none, 0, 0⟩, ⟨none, 0, 0⟩⟩)) := hbx; have BB9 := Lib.hid (BB8.out.trans (hw.below _ (Nat.le_refl _))); have q9 := hw.size; have H2 := Lib.hid hw; have k3 := V9.out.cell (j := 5) rfl; have m3 := (HBX.out v9 BB9.out).1.cell (j := 5) rfl; clear hbx hw)
    | (at_builtin; refine wpList_can (laySes.elem Try.underlying24) rfl (.tmp 22) (.tmp 24) rfl v9.heap.size none 0 0 [] rfl (Can.nil _ _ _ _) _ ss.length _ (ss.flatMap laySes.cells) rfl (laySes.length _) (R3.out.below (BW.out.trans (BB9.out.mono (by omega)))) (laySes.ones _) (by show (0 + ss.length) * 56 ≤ _; omega) (Nat.le_refl _) ?_; intro x3 y3 v10 hcan hg hbb hown; have K3 := Lib.hid (FreshRow.of rfl hcan hown); have b3 := Lib.hid hbb; have V10 := Lib.hid (V9.out.below hbb (by omega)); have BB10 := Lib.hid (BB9.out.trans (hbb.mono (by omega))); have q10 := hbb.size; clear hcan hg hbb hown k3 m3)
    | (refine wpList_store_field rfl (.tmp 26) (.tmp 25) rfl size1_more.1 (w.heap.size + 1 + 1) 5 _ (.slice x3 ss.length y3) rfl rfl rfl rfl V10.out (show 5 < 7 by decide) ?_; intro v11 hbx hw; have V11 : Hid (Box v11 (w.heap.size + 1 + 1) (Raw.cells ⟨term, stamp, next, ⟨x1, ts.length, y1⟩, ⟨x2, ls.length, y2⟩, ⟨x3, ss.length, y3⟩, ⟨none, 0, 0⟩⟩)) := hbx; have BB11 := Lib.hid (BB10.out.trans (hw.below _ (Nat.le_refl _))); have q11 := hw.size; have H3 := Lib.hid hw; have k3 := V11.out.cell (j := 6) rfl; have m3 := (HBX.out v11 BB11.out).1.cell (j := 6) rfl; clear hbx hw)
    | (at_builtin; refine wpList_can (layDsk.elem Try.underlying25) rfl (.tmp 28) (.tmp 30) rfl v11.heap.size none 0 0 [] rfl (Can.nil _ _ _ _) _ ds.length _ (ds.flatMap layDsk.cells) rfl (layDsk.length _) (R4.out.below (BW.out.trans (BB11.out.mono (by omega)))) (layDsk.ones _) (by show (0 + ds.length) * 64 ≤ _; omega) (Nat.le_refl _) ?_; intro x4 y4 v12 hcan hg hbb hown; have K4 := Lib.hid (FreshRow.of rfl hcan hown); have b4 := Lib.hid hbb; have V12 := Lib.hid (V11.out.below hbb (by omega)); have BB12 := Lib.hid (BB11.out.trans (hbb.mono (by omega))); have q12 := hbb.size; clear hcan hg hbb hown k3 m3)
    | (refine wpList_store_field rfl (.tmp 32) (.tmp 31) rfl size1_more.2 (w.heap.size + 1 + 1) 6 _ (.slice x4 ds.length y4) rfl rfl rfl rfl V12.out (show 6 < 7 by decide) ?_; intro v13 hbx hw; have V13 : Hid (Box v13 (w.heap.size + 1 + 1) (Raw.cells ⟨term, stamp, next, ⟨x1, ts.length, y1⟩, ⟨x2, ls.length, y2⟩, ⟨x3, ss.length, y3⟩, ⟨x4, ds.length, y4⟩⟩)) := hbx; have BB13 := Lib.hid (BB12.out.trans (hw.below _ (Nat.le_refl _))); have q13 := hw.size; have H4 := Lib.hid hw; have k3 := V13.out.cell (j := 6) rfl; have m3 := (HBX.out v13 BB13.out).1.cell (j := 6) rfl; clear hbx hw)
    | (refine wpList_load_as laySt rfl (.tmp 3) rfl (w.heap.size + 1 + 1) 0 rfl ⟨term, stamp, next, ⟨x1, ts.length, y1⟩, ⟨x2, ls.length, y2⟩, ⟨x3, ss.length, y3⟩, ⟨x4, ds.length, y4⟩⟩ (.agg #[.int .i64 term, .int .i64 stamp, .int .i64 next, .slice x1 ts.length y1, .slice x2 ls.length y2, .slice x3 ss.length y3, .slice x4 ds.length y4]) rfl V13.out.range ?_)
    | (refine wpList_store_whole laySt rfl (.tmp 2) (.tmp 33) rfl (w.heap.size + 1) ⟨term, stamp, next, ⟨x1, ts.length, y1⟩, ⟨x2, ls.length, y2⟩, ⟨x3, ss.length, y3⟩, ⟨x4, ds.length, y4⟩⟩ _ rfl rfl (HBX.out v13 BB13.out).2 rfl ?_; intro vz hbx hw; have VZ := Lib.hid hbx; have HZ := Lib.hid hw; clear hbx hw))
  obtain ⟨k0, k1, k2, k3, k4, k5, k6⟩ := cellsSt0 VZ.out.range
  refine bodyPost_ret (v := .agg #[.int .i64 term, .int .i64 stamp, .int .i64 next, .slice x1 ts.length y1, .slice x2 ls.length y2, .slice x3 ss.length y3, .slice x4 ds.length y4]) (by simp [results, Try.results37, go_sem, k0, k1, k2, k3, k4, k5, k6]) rfl ?_
  exact refcopy_fin (by omega) K1.out b1.out H1.out K2.out b2.out H2.out K3.out b3.out H3.out K4.out b4.out H4.out HZ.out ((BW.out.trans (BB13.out.mono (by omega))).trans (HZ.out.below _ (by omega)))
end Go.Proofs.Ytoofmofaimdhpaa

namespace Go.Proofs.Ytoofmofaimdhpaa
open Go.ChangeShapes Go.WideShapes Go.ChangeAt Go.RowKit
set_option maxRecDepth 100000

theorem StAt.sweptLen {s : St} (h : s.tens.length ≤ 900) : (sweptS s).tens.length ≤ 900 := Nat.le_trans (sweepS_length _ _) h
def RetRef (w : World) (s : St) (e : Int) (x : Ending) (w' : World) : Prop := ∃ q, x = .returned (.tuple #[Raw.agg q, (Ans.err e).agg]) ∧ StAt w' w.heap.size q s ∧ Below w.heap.size w w'
set_option maxHeartbeats 4000000 in
theorem refused_bad (s : St) (r : Raw) (B : Nat) (e : Int) (w : World) (h : StAt w B r s) (hl1 : s.tens.length ≤ 900) (hl2 : s.leas.length ≤ 900) (hl3 : s.sess.length ≤ 900) (hl4 : s.dsks.length ≤ 900) (hok : stOk s = false) :
    Calls Try.prog 35 #[r.agg, .int .i64 e] w fun x w' => x = .returned (.tuple #[r.agg, (Ans.err e).agg]) ∧ Below w.heap.size w w' := by
  have HS := Lib.hid h
  have HCK := Lib.hid (fun w' (hb : Below w.heap.size w w') => refcheck_st s r B w' (h.below hb) hl1 hl2)
  have HCP := Lib.hid (fun w' (hb : Below w.heap.size w w') => refcopy_st s r B w' (h.below hb) hl1 hl2 hl3 hl4)
  have HSW := Lib.hid (fun (hok : stOk s = true) q B' w' (h' : StAt w' B' q s) (hB' : B' ≤ w'.heap.size) => refswept_st s q B' w' h' (by
    have h0 := hok
    unfold stOk at h0
    simp only [Bool.and_eq_true] at h0
    exact leasOk_fits h0.1.1 h0.1.2.1) hl1 hl2 hB')
  obtain ⟨term, stamp, next, ⟨a1, n1, c1⟩, ⟨a2, n2, c2⟩, ⟨a3, n3, c3⟩, ⟨a4, n4, c4⟩⟩ := r
  have HBX : Hid (∀ w', Below (((w.alloc (.cells #[.int .i64 term, .int .i64 stamp, .int .i64 next, .slice a1 n1 c1, .slice a2 n2 c2, .slice a3 n3 c3, .slice a4 n4 c4] 27)).alloc (.cells #[.int .i64 0, .int .i64 0, .int .i64 0, .slice none 0 0, .slice none 0 0, .slice none 0 0, .slice none 0 0] 27)).alloc (.cells #[.int .i64 0, .int .i64 0, .int .i64 0, .int .i64 0, .int .i64 0] 32)).heap.size (((w.alloc (.cells #[.int .i64 term, .int .i64 stamp, .int .i64 next, .slice a1 n1 c1, .slice a2 n2 c2, .slice a3 n3 c3, .slice a4 n4 c4] 27)).alloc (.cells #[.int .i64 0, .int .i64 0, .int .i64 0, .slice none 0 0, .slice none 0 0, .slice none 0 0, .slice none 0 0] 27)).alloc (.cells #[.int .i64 0, .int .i64 0, .int .i64 0, .int .i64 0, .int .i64 0] 32)) w' →
      Box w' w.heap.size (Raw.cells ⟨term, stamp, next, ⟨a1, n1, c1⟩, ⟨a2, n2, c2⟩, ⟨a3, n3, c3⟩, ⟨a4, n4, c4⟩⟩) ∧ Box w' (w.heap.size + 1) (Raw.cells ⟨0, 0, 0, ⟨none, 0, 0⟩, ⟨none, 0, 0⟩, ⟨none, 0, 0⟩, ⟨none, 0, 0⟩⟩) ∧ Box w' (w.heap.size + 1 + 1) (Ans.cells ⟨0, 0, 0, 0, 0⟩) ∧ w.heap.size + 3 ≤ w'.heap.size) :=
    fun w' hb => ⟨Box.of_alloc (mid_alloc' (mid_alloc' hb)), Box.of_alloc1 (mid_alloc' hb), Box.of_alloc2 hb, by have := hb.size; simp at this; omega⟩
  clear h hl1 hl2 hl3 hl4
  have HOK := Lib.hid hok
  clear hok HSW HCP
  go_enter Try.func35, Try.ntmps35
  go_wp2_with (first
    | (refine wpList_load_as laySt rfl (.tmp 2) rfl w.heap.size 0 rfl ⟨term, stamp, next, ⟨a1, n1, c1⟩, ⟨a2, n2, c2⟩, ⟨a3, n3, c3⟩, ⟨a4, n4, c4⟩⟩ (.agg #[.int .i64 term, .int .i64 stamp, .int .i64 next, .slice a1 n1 c1, .slice a2 n2 c2, .slice a3 n3 c3, .slice a4 n4 c4]) rfl (HBX.out _ (by repeat' (first | (with_reducible exact Below.refl _ _) | (with_reducible assumption) | (with_reducible refine Below.drew ?_) | (with_reducible refine Below.more ?_ _) | (with_reducible refine Below.put ?_ ?_ _) | (with_reducible refine Below.next ?_ (by with_reducible assumption)) | (with_reducible exact Nat.le_refl _) | (with_reducible refine Below.size' ?_) | omega))).1.range ?_)
    | (go_at_call 16; ((with_reducible refine (HCK.out _ (by repeat' (first | (with_reducible exact Below.refl _ _) | (with_reducible assumption) | (with_reducible refine Below.drew ?_) | (with_reducible refine Below.more ?_ _) | (with_reducible refine Below.put ?_ ?_ _) | (with_reducible refine Below.next ?_ (by with_reducible assumption)) | (with_reducible exact Nat.le_refl _) | (with_reducible refine Below.size' ?_) | omega))).mono ?_); rw [HOK.out]; rintro e w3 ⟨rfl, hb3⟩; have HX3 := Lib.hid (HBX.out w3 (by repeat' (first | (with_reducible exact Below.refl _ _) | (with_reducible assumption) | (with_reducible refine Below.drew ?_) | (with_reducible refine Below.more ?_ _) | (with_reducible refine Below.put ?_ ?_ _) | (with_reducible refine Below.next ?_ (by with_reducible assumption)) | (with_reducible exact Nat.le_refl _) | (with_reducible refine Below.size' ?_) | omega)))))
    | (refine wpList_store_whole laySt rfl (.tmp 4) (.tmp 9) rfl (w.heap.size + 1) ⟨term, stamp, next, ⟨a1, n1, c1⟩, ⟨a2, n2, c2⟩, ⟨a3, n3, c3⟩, ⟨a4, n4, c4⟩⟩ _ rfl rfl HX3.out.2.1 rfl ?_; intro w8 hbx8 hw8; have HX8 := Lib.hid hbx8; have HW8 := Lib.hid hw8; have HA8 := Lib.hid (HX3.out.2.2.1.wrote hw8 (by omega)); clear hbx8 hw8)
    | (refine wpList_store_whole layAns rfl (.tmp 5) (.tmp 11) rfl (w.heap.size + 1 + 1) ⟨e, 0, 0, 0, 0⟩ _ rfl rfl HA8.out rfl ?_; intro w9 hbx9 hw9; have HA9 := Lib.hid hbx9; have HW9 := Lib.hid hw9; have HX9 := Lib.hid (HX8.out.wrote hw9 (by omega)); clear hbx9 hw9))
  have b3 : Below w.heap.size w w3 := (by repeat' (first | (with_reducible exact Below.refl _ _) | (with_reducible assumption) | (with_reducible refine Below.drew ?_) | (with_reducible refine Below.more ?_ _) | (with_reducible refine Below.put ?_ ?_ _) | (with_reducible refine Below.next ?_ (by with_reducible assumption)) | (with_reducible exact Nat.le_refl _) | (with_reducible refine Below.size' ?_) | omega))
  have b9 : Below w.heap.size w w9 := (b3.trans (HW8.out.below _ (by omega))).trans (HW9.out.below _ (by omega))
  obtain ⟨k0, k1, k2, k3, k4, k5, k6⟩ := cellsSt0 HX9.out.range
  obtain ⟨j0, j1, j2, j3, j4⟩ := cellsAns0 HA9.out.range
  refine bodyPost_ret (v := .tuple #[.agg #[.int .i64 term, .int .i64 stamp, .int .i64 next, .slice a1 n1 c1, .slice a2 n2 c2, .slice a3 n3 c3, .slice a4 n4 c4], .agg #[.int .i64 e, .int .i64 0, .int .i64 0, .int .i64 0, .int .i64 0]]) (by simp [results, Try.results35, go_sem, k0, k1, k2, k3, k4, k5, k6, j0, j1, j2, j3, j4]) rfl ?_
  exact ⟨rfl, b9⟩

set_option maxHeartbeats 4000000 in
theorem refused_ok (s : St) (r : Raw) (B : Nat) (e : Int) (w : World) (h : StAt w B r s) (hl1 : s.tens.length ≤ 900) (hl2 : s.leas.length ≤ 900) (hl3 : s.sess.length ≤ 900) (hl4 : s.dsks.length ≤ 900) (hok : stOk s = true) :
    Calls Try.prog 35 #[r.agg, .int .i64 e] w (RetRef w (sweptS s) e) := by
  have HS := Lib.hid h
  have HCK := Lib.hid (fun w' (hb : Below w.heap.size w w') => refcheck_st s r B w' (h.below hb) hl1 hl2)
  have HCP := Lib.hid (fun w' (hb : Below w.heap.size w w') => refcopy_st s r B w' (h.below hb) hl1 hl2 hl3 hl4)
  have HSW := Lib.hid (fun (hok : stOk s = true) q B' w' (h' : StAt w' B' q s) (hB' : B' ≤ w'.heap.size) => refswept_st s q B' w' h' (by
    have h0 := hok
    unfold stOk at h0
    simp only [Bool.and_eq_true] at h0
    exact leasOk_fits h0.1.1 h0.1.2.1) hl1 hl2 hB')
  obtain ⟨term, stamp, next, ⟨a1, n1, c1⟩, ⟨a2, n2, c2⟩, ⟨a3, n3, c3⟩, ⟨a4, n4, c4⟩⟩ := r
  have HBX : Hid (∀ w', Below (((w.alloc (.cells #[.int .i64 term, .int .i64 stamp, .int .i64 next, .slice a1 n1 c1, .slice a2 n2 c2, .slice a3 n3 c3, .slice a4 n4 c4] 27)).alloc (.cells #[.int .i64 0, .int .i64 0, .int .i64 0, .slice none 0 0, .slice none 0 0, .slice none 0 0, .slice none 0 0] 27)).alloc (.cells #[.int .i64 0, .int .i64 0, .int .i64 0, .int .i64 0, .int .i64 0] 32)).heap.size (((w.alloc (.cells #[.int .i64 term, .int .i64 stamp, .int .i64 next, .slice a1 n1 c1, .slice a2 n2 c2, .slice a3 n3 c3, .slice a4 n4 c4] 27)).alloc (.cells #[.int .i64 0, .int .i64 0, .int .i64 0, .slice none 0 0, .slice none 0 0, .slice none 0 0, .slice none 0 0] 27)).alloc (.cells #[.int .i64 0, .int .i64 0, .int .i64 0, .int .i64 0, .int .i64 0] 32)) w' →
      Box w' w.heap.size (Raw.cells ⟨term, stamp, next, ⟨a1, n1, c1⟩, ⟨a2, n2, c2⟩, ⟨a3, n3, c3⟩, ⟨a4, n4, c4⟩⟩) ∧ Box w' (w.heap.size + 1) (Raw.cells ⟨0, 0, 0, ⟨none, 0, 0⟩, ⟨none, 0, 0⟩, ⟨none, 0, 0⟩, ⟨none, 0, 0⟩⟩) ∧ Box w' (w.heap.size + 1 + 1) (Ans.cells ⟨0, 0, 0, 0, 0⟩) ∧ w.heap.size + 3 ≤ w'.heap.size) :=
    fun w' hb => ⟨Box.of_alloc (mid_alloc' (mid_alloc' hb)), Box.of_alloc1 (mid_alloc' hb), Box.of_alloc2 hb, by have := hb.size; simp at this; omega⟩
  clear h hl1 hl2 hl3 hl4
  have HOK := Lib.hid hok
  clear hok
  go_enter Try.func35, Try.ntmps35
  go_wp2_with (first
    | (refine wpList_load_as laySt rfl (.tmp 2) rfl w.heap.size 0 rfl ⟨term, stamp, next, ⟨a1, n1, c1⟩, ⟨a2, n2, c2⟩, ⟨a3, n3, c3⟩, ⟨a4, n4, c4⟩⟩ (.agg #[.int .i64 term, .int .i64 stamp, .int .i64 next, .slice a1 n1 c1, .slice a2 n2 c2, .slice a3 n3 c3, .slice a4 n4 c4]) rfl (by first | exact HX3.out.1.range | exact (HBX.out _ (by repeat' (first | (with_reducible exact Below.refl _ _) | (with_reducible assumption) | (with_reducible refine Below.drew ?_) | (with_reducible refine Below.more ?_ _) | (with_reducible refine Below.put ?_ ?_ _) | (with_reducible refine Below.next ?_ (by with_reducible assumption)) | (with_reducible exact Nat.le_refl _) | (with_reducible refine Below.size' ?_) | omega))).1.range) ?_)
    | (go_at_call 16; ((with_reducible refine (HCK.out _ (by repeat' (first | (with_reducible exact Below.refl _ _) | (with_reducible assumption) | (with_reducible refine Below.drew ?_) | (with_reducible refine Below.more ?_ _) | (with_reducible refine Below.put ?_ ?_ _) | (with_reducible refine Below.next ?_ (by with_reducible assumption)) | (with_reducible exact Nat.le_refl _) | (with_reducible refine Below.size' ?_) | omega))).mono ?_); rw [HOK.out]; rintro e w3 ⟨rfl, hb3⟩; have HX3 := Lib.hid (HBX.out w3 (by repeat' (first | (with_reducible exact Below.refl _ _) | (with_reducible assumption) | (with_reducible refine Below.drew ?_) | (with_reducible refine Below.more ?_ _) | (with_reducible refine Below.put ?_ ?_ _) | (with_reducible refine Below.next ?_ (by with_reducible assumption)) | (with_reducible exact Nat.le_refl _) | (with_reducible refine Below.size' ?_) | omega)))))
    | (go_at_call 37; ((with_reducible refine (HCP.out _ (by repeat' (first | (with_reducible exact Below.refl _ _) | (with_reducible assumption) | (with_reducible refine Below.drew ?_) | (with_reducible refine Below.more ?_ _) | (with_reducible refine Below.put ?_ ?_ _) | (with_reducible refine Below.next ?_ (by with_reducible assumption)) | (with_reducible exact Nat.le_refl _) | (with_reducible refine Below.size' ?_) | omega))).mono ?_); rintro e w4 ⟨⟨t4, s4, n4', ⟨x1, m1, y1⟩, ⟨x2, m2, y2⟩, ⟨x3, m3, y3⟩, ⟨x4, m4, y4⟩⟩, rfl, hst4, hb4⟩; have HST4 := Lib.hid hst4; clear hst4))
    | (go_at_call 39; have hsw := HSW.out HOK.out _ _ w4 HST4.out.is hb4.size; ((with_reducible refine hsw.mono ?_); clear hsw; rintro e w5 ⟨⟨t5, s5, n5', ⟨z1, o1, v1⟩, ⟨z2, o2, v2⟩, ⟨z3, o3, v3⟩, ⟨z4, o4, v4⟩⟩, rfl, hst5, hb5⟩; have HST5 := Lib.hid hst5; have HX5 := Lib.hid (HBX.out w5 (by repeat' (first | (with_reducible exact Below.refl _ _) | (with_reducible assumption) | (with_reducible refine Below.drew ?_) | (with_reducible refine Below.more ?_ _) | (with_reducible refine Below.put ?_ ?_ _) | (with_reducible refine Below.next ?_ (by with_reducible assumption)) | (with_reducible exact Nat.le_refl _) | (with_reducible refine Below.size' ?_) | omega))); clear hst5))
    | (refine wpList_store_whole laySt rfl (.tmp 4) (.tmp 14) rfl (w.heap.size + 1) ⟨t5, s5, n5', ⟨z1, o1, v1⟩, ⟨z2, o2, v2⟩, ⟨z3, o3, v3⟩, ⟨z4, o4, v4⟩⟩ _ rfl rfl HX5.out.2.1 rfl ?_; intro w8 hbx8 hw8; have HX8 := Lib.hid hbx8; have HW8 := Lib.hid hw8; have HA8 := Lib.hid (HX5.out.2.2.1.wrote hw8 (by omega)); clear hbx8 hw8)
    | (refine wpList_store_whole layAns rfl (.tmp 5) (.tmp 16) rfl (w.heap.size + 1 + 1) ⟨e, 0, 0, 0, 0⟩ _ rfl rfl HA8.out rfl ?_; intro w9 hbx9 hw9; have HA9 := Lib.hid hbx9; have HW9 := Lib.hid hw9; have HX9 := Lib.hid (HX8.out.wrote hw9 (by omega)); clear hbx9 hw9))
  have b3 : Below w.heap.size w w3 := (by repeat' (first | (with_reducible exact Below.refl _ _) | (with_reducible assumption) | (with_reducible refine Below.drew ?_) | (with_reducible refine Below.more ?_ _) | (with_reducible refine Below.put ?_ ?_ _) | (with_reducible refine Below.next ?_ (by with_reducible assumption)) | (with_reducible exact Nat.le_refl _) | (with_reducible refine Below.size' ?_) | omega))
  have q3 := HX3.out.2.2.2
  have q4 := hb4.size
  have q5 := hb5.size
  have b9 : Below w.heap.size w w9 := (((b3.trans (hb4.mono (by omega))).trans (hb5.mono (by omega))).trans (HW8.out.below _ (by omega))).trans (HW9.out.below _ (by omega))
  have m59 : Mid w3.heap.size w5.heap.size w5 w9 := ((Mid.refl w3.heap.size w5.heap.size w5).wrote HW8.out (.inl (by omega))).wrote HW9.out (.inl (by omega))
  obtain ⟨k0, k1, k2, k3, k4, k5, k6⟩ := cellsSt0 HX9.out.range
  obtain ⟨j0, j1, j2, j3, j4⟩ := cellsAns0 HA9.out.range
  refine bodyPost_ret (v := .tuple #[.agg #[.int .i64 t5, .int .i64 s5, .int .i64 n5', .slice z1 o1 v1, .slice z2 o2 v2, .slice z3 o3 v3, .slice z4 o4 v4], .agg #[.int .i64 e, .int .i64 0, .int .i64 0, .int .i64 0, .int .i64 0]]) (by simp [results, Try.results35, go_sem, k0, k1, k2, k3, k4, k5, k6, j0, j1, j2, j3, j4]) rfl ?_
  exact ⟨⟨t5, s5, n5', ⟨z1, o1, v1⟩, ⟨z2, o2, v2⟩, ⟨z3, o3, v3⟩, ⟨z4, o4, v4⟩⟩, rfl, (HST5.out.mid m59 (Nat.le_refl _) (Nat.le_refl _)).mono (by omega), b9⟩
end Go.Proofs.Ytoofmofaimdhpaa

namespace Go.Proofs.Ytoofmofaimdhpaa
open Go.ChangeShapes Go.WideShapes Go.ChangeAt Go.RowKit
set_option maxRecDepth 100000

theorem refgrant_out {w w' : World} {tmps : Array Value} {res : St × Ans} {r9 : Raw} {a : Ans} (h12 : tmps[12]? = some (.pointer (some ⟨w.heap.size + 1, 0, none⟩))) (h13 : tmps[13]? = some (.pointer (some ⟨w.heap.size + 1 + 1, 0, none⟩)))
    (hx : Box w' (w.heap.size + 1) (Raw.cells r9)) (ha : Box w' (w.heap.size + 1 + 1) (Ans.cells a)) (hs : StAt w' 0 r9 res.1) (he : res.2 = a) (hb : Below w.heap.size w w') :
    ∃ v, (results Try.f12 tmps).run Try.prog w' = .ok v w' ∧ RetSA w res (.returned v) w' := by
  obtain ⟨k0, k1, k2, k3, k4, k5, k6⟩ := cellsSt0 hx.range
  obtain ⟨j0, j1, j2, j3, j4⟩ := cellsAns0 ha.range
  have g12 : tmps[12]! = .pointer (some ⟨w.heap.size + 1, 0, none⟩) := by rw [getElem!_def, h12]
  have g13 : tmps[13]! = .pointer (some ⟨w.heap.size + 1 + 1, 0, none⟩) := by rw [getElem!_def, h13]
  refine ⟨.tuple #[r9.agg, a.agg], ?_, r9, by rw [he], hs, hb⟩
  simp [results, Try.results12, go_sem, g12, g13, h12, h13, k0, k1, k2, k3, k4, k5, k6, j0, j1, j2, j3, j4]

set_option maxHeartbeats 8000000 in
theorem refgrant_bad (s : St) (r : Raw) (B : Nat) (sh ep nu te sz : Int) (w : World) (h : StAt w B r s) (hl1' : s.tens.length ≤ 800) (hl2 : s.leas.length ≤ 900) (hl3 : s.sess.length ≤ 900) (hl4 : s.dsks.length ≤ 900)
    (hok : stOk s = false) :
    Calls Try.prog 12 #[r.agg, .int .i64 sh, .int .i64 ep, .int .i64 nu, .int .i64 te, .int .i64 sz] w (RetSA w (s, Ans.err 2)) := by
  have hl1 : s.tens.length ≤ 900 := by omega
  have HS := Lib.hid h
  have HL := Lib.hid (And.intro hl1 (And.intro hl2 (And.intro hl3 hl4)))
  have HCK := Lib.hid (fun w' (hb : Below w.heap.size w w') => refcheck_st s r B w' (h.below hb) hl1 hl2)
  have HOK := Lib.hid hok
  have HPF := Lib.hid (fun w' (hb : Below w.heap.size w w') => reffind_any s.tens r.ten.a r.ten.n r.ten.c te w' h.ten.len (le_maxLen (by omega)) (Row.below h.trow hb))
  have HRE := Lib.hid (fun w' (hb : Below w.heap.size w w') => refused_bad s r B 2 w' (h.below hb) hl1 hl2 hl3 hl4 hok)
  obtain ⟨term, stamp, next, ⟨a1, n1, c1⟩, ⟨a2, n2, c2⟩, ⟨a3, n3, c3⟩, ⟨a4, n4, c4⟩⟩ := r
  obtain rfl : next = s.next := h.next
  obtain rfl : s.leas.length = n2 := h.lea.len
  have HBX : Hid (∀ w', Below (((w.alloc (.cells #[.int .i64 term, .int .i64 stamp, .int .i64 s.next, .slice a1 n1 c1, .slice a2 s.leas.length c2, .slice a3 n3 c3, .slice a4 n4 c4] 27)).alloc (.cells #[.int .i64 0, .int .i64 0, .int .i64 0, .slice none 0 0, .slice none 0 0, .slice none 0 0, .slice none 0 0] 27)).alloc (.cells #[.int .i64 0, .int .i64 0, .int .i64 0, .int .i64 0, .int .i64 0] 32)).heap.size (((w.alloc (.cells #[.int .i64 term, .int .i64 stamp, .int .i64 s.next, .slice a1 n1 c1, .slice a2 s.leas.length c2, .slice a3 n3 c3, .slice a4 n4 c4] 27)).alloc (.cells #[.int .i64 0, .int .i64 0, .int .i64 0, .slice none 0 0, .slice none 0 0, .slice none 0 0, .slice none 0 0] 27)).alloc (.cells #[.int .i64 0, .int .i64 0, .int .i64 0, .int .i64 0, .int .i64 0] 32)) w' →
      Box w' w.heap.size (Raw.cells ⟨term, stamp, s.next, ⟨a1, n1, c1⟩, ⟨a2, s.leas.length, c2⟩, ⟨a3, n3, c3⟩, ⟨a4, n4, c4⟩⟩) ∧ Box w' (w.heap.size + 1) (Raw.cells ⟨0, 0, 0, ⟨none, 0, 0⟩, ⟨none, 0, 0⟩, ⟨none, 0, 0⟩, ⟨none, 0, 0⟩⟩) ∧ Box w' (w.heap.size + 1 + 1) (Ans.cells ⟨0, 0, 0, 0, 0⟩) ∧ w.heap.size + 3 ≤ w'.heap.size) :=
    fun w' hb => ⟨Box.of_alloc (mid_alloc' (mid_alloc' hb)), Box.of_alloc1 (mid_alloc' hb), Box.of_alloc2 hb, by have := hb.size; simp at this; omega⟩
  clear h hl1 hl2 hl3 hl4 hok
  go_enter Try.func12, Try.ntmps12
  go_wp2_with (first
      | (have hgq := HA8; clear hgq; refine wpList_store_whole layAns rfl (.tmp 13) (.tmp 49) rfl (w.heap.size + 1 + 1) ⟨2, 0, 0, 0, 0⟩ _ rfl rfl HA8.out rfl ?_; intro w9 hbx9 hw9; have HA9 := Lib.hid hbx9; have HW9 := Lib.hid hw9; have HX9 := Lib.hid (HX8.out.wrote hw9 (by omega)); clear hbx9 hw9)
      | (have hgq := hb7; clear hgq; refine wpList_store_whole laySt rfl (.tmp 12) (.tmp 48) rfl (w.heap.size + 1) ⟨term, stamp, s.next, ⟨a1, n1, c1⟩, ⟨a2, s.leas.length, c2⟩, ⟨a3, n3, c3⟩, ⟨a4, n4, c4⟩⟩ _ rfl rfl (HBX.out w7 (by repeat' (first | (with_reducible exact Below.refl _ _) | (with_reducible assumption) | (with_reducible refine Below.drew ?_) | (with_reducible refine Below.more ?_ _) | (with_reducible refine Below.put ?_ ?_ _) | (with_reducible refine Below.next ?_ (by with_reducible assumption)) | (with_reducible exact Nat.le_refl _) | (with_reducible refine Below.size' ?_) | omega))).2.1 rfl ?_; intro w8 hbx8 hw8; have HX8 := Lib.hid hbx8; have HW8 := Lib.hid hw8; have HA8 := Lib.hid ((HBX.out w7 (by repeat' (first | (with_reducible exact Below.refl _ _) | (with_reducible assumption) | (with_reducible refine Below.drew ?_) | (with_reducible refine Below.more ?_ _) | (with_reducible refine Below.put ?_ ?_ _) | (with_reducible refine Below.next ?_ (by with_reducible assumption)) | (with_reducible exact Nat.le_refl _) | (with_reducible refine Below.size' ?_) | omega))).2.2.1.wrote hw8 (by omega)); clear hbx8 hw8)
      | (go_at_call 35; ((with_reducible refine (HRE.out _ (by repeat' (first | (with_reducible exact Below.refl _ _) | (with_reducible assumption) | (with_reducible refine Below.drew ?_) | (with_reducible refine Below.more ?_ _) | (with_reducible refine Below.put ?_ ?_ _) | (with_reducible refine Below.next ?_ (by with_reducible assumption)) | (with_reducible exact Nat.le_refl _) | (with_reducible refine Below.size' ?_) | omega))).mono ?_); rintro e w7 ⟨rfl, hb7⟩))
      | (go_at_call 16; ((with_reducible refine (HCK.out _ (by repeat' (first | (with_reducible exact Below.refl _ _) | (with_reducible assumption) | (with_reducible refine Below.drew ?_) | (with_reducible refine Below.more ?_ _) | (with_reducible refine Below.put ?_ ?_ _) | (with_reducible refine Below.next ?_ (by with_reducible assumption)) | (with_reducible exact Nat.le_refl _) | (with_reducible refine Below.size' ?_) | omega))).mono ?_); rw [HOK.out]; rintro e w3 ⟨rfl, hb3⟩))
      | (refine wpList_load_as laySt rfl (.tmp 6) rfl w.heap.size 0 rfl ⟨term, stamp, s.next, ⟨a1, n1, c1⟩, ⟨a2, s.leas.length, c2⟩, ⟨a3, n3, c3⟩, ⟨a4, n4, c4⟩⟩ (.agg #[.int .i64 term, .int .i64 stamp, .int .i64 s.next, .slice a1 n1 c1, .slice a2 s.leas.length c2, .slice a3 n3 c3, .slice a4 n4 c4]) rfl (HBX.out _ (by repeat' (first | (with_reducible exact Below.refl _ _) | (with_reducible assumption) | (with_reducible refine Below.drew ?_) | (with_reducible refine Below.more ?_ _) | (with_reducible refine Below.put ?_ ?_ _) | (with_reducible refine Below.next ?_ (by with_reducible assumption)) | (with_reducible exact Nat.le_refl _) | (with_reducible refine Below.size' ?_) | omega))).1.range ?_))
  have q7 := (HBX.out w7 (by repeat' (first | (with_reducible exact Below.refl _ _) | (with_reducible assumption) | (with_reducible refine Below.drew ?_) | (with_reducible refine Below.more ?_ _) | (with_reducible refine Below.put ?_ ?_ _) | (with_reducible refine Below.next ?_ (by with_reducible assumption)) | (with_reducible exact Nat.le_refl _) | (with_reducible refine Below.size' ?_) | omega))).2.2.2
  have b7 : Below w.heap.size w w7 := (by repeat' (first | (with_reducible exact Below.refl _ _) | (with_reducible assumption) | (with_reducible refine Below.drew ?_) | (with_reducible refine Below.more ?_ _) | (with_reducible refine Below.put ?_ ?_ _) | (with_reducible refine Below.next ?_ (by with_reducible assumption)) | (with_reducible exact Nat.le_refl _) | (with_reducible refine Below.size' ?_) | omega))
  have b79 : Below w.heap.size w w9 := (b7.trans (HW8.out.below _ (by omega))).trans (HW9.out.below _ (by omega))
  exact ⟨rfl, refgrant_out (r9 := ⟨term, stamp, s.next, ⟨a1, n1, c1⟩, ⟨a2, s.leas.length, c2⟩, ⟨a3, n3, c3⟩, ⟨a4, n4, c4⟩⟩) (a := ⟨2, 0, 0, 0, 0⟩) rfl rfl HX9.out HA9.out ((HS.out.below b79).mono (Nat.zero_le _)) rfl b79⟩
set_option maxHeartbeats 8000000 in
theorem refgrant_arg0 (s : St) (r : Raw) (B : Nat) (sh ep nu te sz : Int) (w : World) (h : StAt w B r s) (hl1' : s.tens.length ≤ 800) (hl2 : s.leas.length ≤ 900) (hl3 : s.sess.length ≤ 900) (hl4 : s.dsks.length ≤ 900)
    (hok : stOk s = true) (g1 : sh < 1) :
    Calls Try.prog 12 #[r.agg, .int .i64 sh, .int .i64 ep, .int .i64 nu, .int .i64 te, .int .i64 sz] w (RetSA w (sweptS s, Ans.err 2)) := by
  have hl1 : s.tens.length ≤ 900 := by omega
  have HS := Lib.hid h
  have HL := Lib.hid (And.intro hl1 (And.intro hl2 (And.intro hl3 hl4)))
  have HCK := Lib.hid (fun w' (hb : Below w.heap.size w w') => refcheck_st s r B w' (h.below hb) hl1 hl2)
  have HOK := Lib.hid hok
  have HPF := Lib.hid (fun w' (hb : Below w.heap.size w w') => reffind_any s.tens r.ten.a r.ten.n r.ten.c te w' h.ten.len (le_maxLen (by omega)) (Row.below h.trow hb))
  have HRE := Lib.hid (fun w' (hb : Below w.heap.size w w') => refused_ok s r B 2 w' (h.below hb) hl1 hl2 hl3 hl4 hok)
  obtain ⟨term, stamp, next, ⟨a1, n1, c1⟩, ⟨a2, n2, c2⟩, ⟨a3, n3, c3⟩, ⟨a4, n4, c4⟩⟩ := r
  obtain rfl : next = s.next := h.next
  obtain rfl : s.leas.length = n2 := h.lea.len
  have HBX : Hid (∀ w', Below (((w.alloc (.cells #[.int .i64 term, .int .i64 stamp, .int .i64 s.next, .slice a1 n1 c1, .slice a2 s.leas.length c2, .slice a3 n3 c3, .slice a4 n4 c4] 27)).alloc (.cells #[.int .i64 0, .int .i64 0, .int .i64 0, .slice none 0 0, .slice none 0 0, .slice none 0 0, .slice none 0 0] 27)).alloc (.cells #[.int .i64 0, .int .i64 0, .int .i64 0, .int .i64 0, .int .i64 0] 32)).heap.size (((w.alloc (.cells #[.int .i64 term, .int .i64 stamp, .int .i64 s.next, .slice a1 n1 c1, .slice a2 s.leas.length c2, .slice a3 n3 c3, .slice a4 n4 c4] 27)).alloc (.cells #[.int .i64 0, .int .i64 0, .int .i64 0, .slice none 0 0, .slice none 0 0, .slice none 0 0, .slice none 0 0] 27)).alloc (.cells #[.int .i64 0, .int .i64 0, .int .i64 0, .int .i64 0, .int .i64 0] 32)) w' →
      Box w' w.heap.size (Raw.cells ⟨term, stamp, s.next, ⟨a1, n1, c1⟩, ⟨a2, s.leas.length, c2⟩, ⟨a3, n3, c3⟩, ⟨a4, n4, c4⟩⟩) ∧ Box w' (w.heap.size + 1) (Raw.cells ⟨0, 0, 0, ⟨none, 0, 0⟩, ⟨none, 0, 0⟩, ⟨none, 0, 0⟩, ⟨none, 0, 0⟩⟩) ∧ Box w' (w.heap.size + 1 + 1) (Ans.cells ⟨0, 0, 0, 0, 0⟩) ∧ w.heap.size + 3 ≤ w'.heap.size) :=
    fun w' hb => ⟨Box.of_alloc (mid_alloc' (mid_alloc' hb)), Box.of_alloc1 (mid_alloc' hb), Box.of_alloc2 hb, by have := hb.size; simp at this; omega⟩
  clear h hl1 hl2 hl3 hl4 hok
  go_enter Try.func12, Try.ntmps12
  go_wp2_with (first
      | (have hgq := HA8; clear hgq; refine wpList_store_whole layAns rfl (.tmp 13) (.tmp 49) rfl (w.heap.size + 1 + 1) ⟨2, 0, 0, 0, 0⟩ _ rfl rfl HA8.out rfl ?_; intro w9 hbx9 hw9; have HA9 := Lib.hid hbx9; have HW9 := Lib.hid hw9; have HX9 := Lib.hid (HX8.out.wrote hw9 (by omega)); clear hbx9 hw9)
      | (have hgq := hb7; clear hgq; refine wpList_store_whole laySt rfl (.tmp 12) (.tmp 48) rfl (w.heap.size + 1) q _ rfl rfl (HBX.out w7 (by repeat' (first | (with_reducible exact Below.refl _ _) | (with_reducible assumption) | (with_reducible refine Below.drew ?_) | (with_reducible refine Below.more ?_ _) | (with_reducible refine Below.put ?_ ?_ _) | (with_reducible refine Below.next ?_ (by with_reducible assumption)) | (with_reducible exact Nat.le_refl _) | (with_reducible refine Below.size' ?_) | omega))).2.1 rfl ?_; intro w8 hbx8 hw8; have HX8 := Lib.hid hbx8; have HW8 := Lib.hid hw8; have HA8 := Lib.hid ((HBX.out w7 (by repeat' (first | (with_reducible exact Below.refl _ _) | (with_reducible assumption) | (with_reducible refine Below.drew ?_) | (with_reducible refine Below.more ?_ _) | (with_reducible refine Below.put ?_ ?_ _) | (with_reducible refine Below.next ?_ (by with_reducible assumption)) | (with_reducible exact Nat.le_refl _) | (with_reducible refine Below.size' ?_) | omega))).2.2.1.wrote hw8 (by omega)); clear hbx8 hw8)
      | (go_at_call 35; ((with_reducible refine (HRE.out _ (by repeat' (first | (with_reducible exact Below.refl _ _) | (with_reducible assumption) | (with_reducible refine Below.drew ?_) | (with_reducible refine Below.more ?_ _) | (with_reducible refine Below.put ?_ ?_ _) | (with_reducible refine Below.next ?_ (by with_reducible assumption)) | (with_reducible exact Nat.le_refl _) | (with_reducible refine Below.size' ?_) | omega))).mono ?_); rintro e w7 ⟨q, rfl, hst7, hb7⟩; have HST7 := Lib.hid hst7; clear hst7))
      | (go_at_call 16; ((with_reducible refine (HCK.out _ (by repeat' (first | (with_reducible exact Below.refl _ _) | (with_reducible assumption) | (with_reducible refine Below.drew ?_) | (with_reducible refine Below.more ?_ _) | (with_reducible refine Below.put ?_ ?_ _) | (with_reducible refine Below.next ?_ (by with_reducible assumption)) | (with_reducible exact Nat.le_refl _) | (with_reducible refine Below.size' ?_) | omega))).mono ?_); rw [HOK.out]; rintro e w3 ⟨rfl, hb3⟩))
      | (refine wpList_load_as laySt rfl (.tmp 6) rfl w.heap.size 0 rfl ⟨term, stamp, s.next, ⟨a1, n1, c1⟩, ⟨a2, s.leas.length, c2⟩, ⟨a3, n3, c3⟩, ⟨a4, n4, c4⟩⟩ (.agg #[.int .i64 term, .int .i64 stamp, .int .i64 s.next, .slice a1 n1 c1, .slice a2 s.leas.length c2, .slice a3 n3 c3, .slice a4 n4 c4]) rfl (HBX.out _ (by repeat' (first | (with_reducible exact Below.refl _ _) | (with_reducible assumption) | (with_reducible refine Below.drew ?_) | (with_reducible refine Below.more ?_ _) | (with_reducible refine Below.put ?_ ?_ _) | (with_reducible refine Below.next ?_ (by with_reducible assumption)) | (with_reducible exact Nat.le_refl _) | (with_reducible refine Below.size' ?_) | omega))).1.range ?_))
  have q7 := (HBX.out w7 (by repeat' (first | (with_reducible exact Below.refl _ _) | (with_reducible assumption) | (with_reducible refine Below.drew ?_) | (with_reducible refine Below.more ?_ _) | (with_reducible refine Below.put ?_ ?_ _) | (with_reducible refine Below.next ?_ (by with_reducible assumption)) | (with_reducible exact Nat.le_refl _) | (with_reducible refine Below.size' ?_) | omega))).2.2.2
  have qq := (HBX.out w3 (by repeat' (first | (with_reducible exact Below.refl _ _) | (with_reducible assumption) | (with_reducible refine Below.drew ?_) | (with_reducible refine Below.more ?_ _) | (with_reducible refine Below.put ?_ ?_ _) | (with_reducible refine Below.next ?_ (by with_reducible assumption)) | (with_reducible exact Nat.le_refl _) | (with_reducible refine Below.size' ?_) | omega))).2.2.2
  have b7 : Below w.heap.size w w7 := (by repeat' (first | (with_reducible exact Below.refl _ _) | (with_reducible assumption) | (with_reducible refine Below.drew ?_) | (with_reducible refine Below.more ?_ _) | (with_reducible refine Below.put ?_ ?_ _) | (with_reducible refine Below.next ?_ (by with_reducible assumption)) | (with_reducible exact Nat.le_refl _) | (with_reducible refine Below.size' ?_) | omega))
  have b79 : Below w.heap.size w w9 := (b7.trans (HW8.out.below _ (by omega))).trans (HW9.out.below _ (by omega))
  have m79 := ((Mid.refl w3.heap.size w7.heap.size w7).wrote HW8.out (.inl (by omega))).wrote HW9.out (.inl (by omega))
  exact ⟨rfl, refgrant_out (r9 := q) (a := ⟨2, 0, 0, 0, 0⟩) rfl rfl HX9.out HA9.out ((HST7.out.mid m79 (Nat.le_refl _) (Nat.le_refl _)).mono (Nat.zero_le _)) rfl b79⟩
set_option maxHeartbeats 8000000 in
theorem refgrant_arg1 (s : St) (r : Raw) (B : Nat) (sh ep nu te sz : Int) (w : World) (h : StAt w B r s) (hl1' : s.tens.length ≤ 800) (hl2 : s.leas.length ≤ 900) (hl3 : s.sess.length ≤ 900) (hl4 : s.dsks.length ≤ 900)
    (hok : stOk s = true) (g1 : 1 ≤ sh) (g2 : 8 < sh) :
    Calls Try.prog 12 #[r.agg, .int .i64 sh, .int .i64 ep, .int .i64 nu, .int .i64 te, .int .i64 sz] w (RetSA w (sweptS s, Ans.err 2)) := by
  have hl1 : s.tens.length ≤ 900 := by omega
  have HS := Lib.hid h
  have HL := Lib.hid (And.intro hl1 (And.intro hl2 (And.intro hl3 hl4)))
  have HCK := Lib.hid (fun w' (hb : Below w.heap.size w w') => refcheck_st s r B w' (h.below hb) hl1 hl2)
  have HOK := Lib.hid hok
  have HPF := Lib.hid (fun w' (hb : Below w.heap.size w w') => reffind_any s.tens r.ten.a r.ten.n r.ten.c te w' h.ten.len (le_maxLen (by omega)) (Row.below h.trow hb))
  have HRE := Lib.hid (fun w' (hb : Below w.heap.size w w') => refused_ok s r B 2 w' (h.below hb) hl1 hl2 hl3 hl4 hok)
  obtain ⟨term, stamp, next, ⟨a1, n1, c1⟩, ⟨a2, n2, c2⟩, ⟨a3, n3, c3⟩, ⟨a4, n4, c4⟩⟩ := r
  obtain rfl : next = s.next := h.next
  obtain rfl : s.leas.length = n2 := h.lea.len
  have HBX : Hid (∀ w', Below (((w.alloc (.cells #[.int .i64 term, .int .i64 stamp, .int .i64 s.next, .slice a1 n1 c1, .slice a2 s.leas.length c2, .slice a3 n3 c3, .slice a4 n4 c4] 27)).alloc (.cells #[.int .i64 0, .int .i64 0, .int .i64 0, .slice none 0 0, .slice none 0 0, .slice none 0 0, .slice none 0 0] 27)).alloc (.cells #[.int .i64 0, .int .i64 0, .int .i64 0, .int .i64 0, .int .i64 0] 32)).heap.size (((w.alloc (.cells #[.int .i64 term, .int .i64 stamp, .int .i64 s.next, .slice a1 n1 c1, .slice a2 s.leas.length c2, .slice a3 n3 c3, .slice a4 n4 c4] 27)).alloc (.cells #[.int .i64 0, .int .i64 0, .int .i64 0, .slice none 0 0, .slice none 0 0, .slice none 0 0, .slice none 0 0] 27)).alloc (.cells #[.int .i64 0, .int .i64 0, .int .i64 0, .int .i64 0, .int .i64 0] 32)) w' →
      Box w' w.heap.size (Raw.cells ⟨term, stamp, s.next, ⟨a1, n1, c1⟩, ⟨a2, s.leas.length, c2⟩, ⟨a3, n3, c3⟩, ⟨a4, n4, c4⟩⟩) ∧ Box w' (w.heap.size + 1) (Raw.cells ⟨0, 0, 0, ⟨none, 0, 0⟩, ⟨none, 0, 0⟩, ⟨none, 0, 0⟩, ⟨none, 0, 0⟩⟩) ∧ Box w' (w.heap.size + 1 + 1) (Ans.cells ⟨0, 0, 0, 0, 0⟩) ∧ w.heap.size + 3 ≤ w'.heap.size) :=
    fun w' hb => ⟨Box.of_alloc (mid_alloc' (mid_alloc' hb)), Box.of_alloc1 (mid_alloc' hb), Box.of_alloc2 hb, by have := hb.size; simp at this; omega⟩
  clear h hl1 hl2 hl3 hl4 hok
  go_enter Try.func12, Try.ntmps12
  go_wp2_with (first
      | (have hgq := HA8; clear hgq; refine wpList_store_whole layAns rfl (.tmp 13) (.tmp 49) rfl (w.heap.size + 1 + 1) ⟨2, 0, 0, 0, 0⟩ _ rfl rfl HA8.out rfl ?_; intro w9 hbx9 hw9; have HA9 := Lib.hid hbx9; have HW9 := Lib.hid hw9; have HX9 := Lib.hid (HX8.out.wrote hw9 (by omega)); clear hbx9 hw9)
      | (have hgq := hb7; clear hgq; refine wpList_store_whole laySt rfl (.tmp 12) (.tmp 48) rfl (w.heap.size + 1) q _ rfl rfl (HBX.out w7 (by repeat' (first | (with_reducible exact Below.refl _ _) | (with_reducible assumption) | (with_reducible refine Below.drew ?_) | (with_reducible refine Below.more ?_ _) | (with_reducible refine Below.put ?_ ?_ _) | (with_reducible refine Below.next ?_ (by with_reducible assumption)) | (with_reducible exact Nat.le_refl _) | (with_reducible refine Below.size' ?_) | omega))).2.1 rfl ?_; intro w8 hbx8 hw8; have HX8 := Lib.hid hbx8; have HW8 := Lib.hid hw8; have HA8 := Lib.hid ((HBX.out w7 (by repeat' (first | (with_reducible exact Below.refl _ _) | (with_reducible assumption) | (with_reducible refine Below.drew ?_) | (with_reducible refine Below.more ?_ _) | (with_reducible refine Below.put ?_ ?_ _) | (with_reducible refine Below.next ?_ (by with_reducible assumption)) | (with_reducible exact Nat.le_refl _) | (with_reducible refine Below.size' ?_) | omega))).2.2.1.wrote hw8 (by omega)); clear hbx8 hw8)
      | (go_at_call 35; ((with_reducible refine (HRE.out _ (by repeat' (first | (with_reducible exact Below.refl _ _) | (with_reducible assumption) | (with_reducible refine Below.drew ?_) | (with_reducible refine Below.more ?_ _) | (with_reducible refine Below.put ?_ ?_ _) | (with_reducible refine Below.next ?_ (by with_reducible assumption)) | (with_reducible exact Nat.le_refl _) | (with_reducible refine Below.size' ?_) | omega))).mono ?_); rintro e w7 ⟨q, rfl, hst7, hb7⟩; have HST7 := Lib.hid hst7; clear hst7))
      | (go_at_call 16; ((with_reducible refine (HCK.out _ (by repeat' (first | (with_reducible exact Below.refl _ _) | (with_reducible assumption) | (with_reducible refine Below.drew ?_) | (with_reducible refine Below.more ?_ _) | (with_reducible refine Below.put ?_ ?_ _) | (with_reducible refine Below.next ?_ (by with_reducible assumption)) | (with_reducible exact Nat.le_refl _) | (with_reducible refine Below.size' ?_) | omega))).mono ?_); rw [HOK.out]; rintro e w3 ⟨rfl, hb3⟩))
      | (refine wpList_load_as laySt rfl (.tmp 6) rfl w.heap.size 0 rfl ⟨term, stamp, s.next, ⟨a1, n1, c1⟩, ⟨a2, s.leas.length, c2⟩, ⟨a3, n3, c3⟩, ⟨a4, n4, c4⟩⟩ (.agg #[.int .i64 term, .int .i64 stamp, .int .i64 s.next, .slice a1 n1 c1, .slice a2 s.leas.length c2, .slice a3 n3 c3, .slice a4 n4 c4]) rfl (HBX.out _ (by repeat' (first | (with_reducible exact Below.refl _ _) | (with_reducible assumption) | (with_reducible refine Below.drew ?_) | (with_reducible refine Below.more ?_ _) | (with_reducible refine Below.put ?_ ?_ _) | (with_reducible refine Below.next ?_ (by with_reducible assumption)) | (with_reducible exact Nat.le_refl _) | (with_reducible refine Below.size' ?_) | omega))).1.range ?_))
  have q7 := (HBX.out w7 (by repeat' (first | (with_reducible exact Below.refl _ _) | (with_reducible assumption) | (with_reducible refine Below.drew ?_) | (with_reducible refine Below.more ?_ _) | (with_reducible refine Below.put ?_ ?_ _) | (with_reducible refine Below.next ?_ (by with_reducible assumption)) | (with_reducible exact Nat.le_refl _) | (with_reducible refine Below.size' ?_) | omega))).2.2.2
  have qq := (HBX.out w3 (by repeat' (first | (with_reducible exact Below.refl _ _) | (with_reducible assumption) | (with_reducible refine Below.drew ?_) | (with_reducible refine Below.more ?_ _) | (with_reducible refine Below.put ?_ ?_ _) | (with_reducible refine Below.next ?_ (by with_reducible assumption)) | (with_reducible exact Nat.le_refl _) | (with_reducible refine Below.size' ?_) | omega))).2.2.2
  have b7 : Below w.heap.size w w7 := (by repeat' (first | (with_reducible exact Below.refl _ _) | (with_reducible assumption) | (with_reducible refine Below.drew ?_) | (with_reducible refine Below.more ?_ _) | (with_reducible refine Below.put ?_ ?_ _) | (with_reducible refine Below.next ?_ (by with_reducible assumption)) | (with_reducible exact Nat.le_refl _) | (with_reducible refine Below.size' ?_) | omega))
  have b79 : Below w.heap.size w w9 := (b7.trans (HW8.out.below _ (by omega))).trans (HW9.out.below _ (by omega))
  have m79 := ((Mid.refl w3.heap.size w7.heap.size w7).wrote HW8.out (.inl (by omega))).wrote HW9.out (.inl (by omega))
  exact ⟨rfl, refgrant_out (r9 := q) (a := ⟨2, 0, 0, 0, 0⟩) rfl rfl HX9.out HA9.out ((HST7.out.mid m79 (Nat.le_refl _) (Nat.le_refl _)).mono (Nat.zero_le _)) rfl b79⟩
set_option maxHeartbeats 8000000 in
theorem refgrant_arg2 (s : St) (r : Raw) (B : Nat) (sh ep nu te sz : Int) (w : World) (h : StAt w B r s) (hl1' : s.tens.length ≤ 800) (hl2 : s.leas.length ≤ 900) (hl3 : s.sess.length ≤ 900) (hl4 : s.dsks.length ≤ 900)
    (hok : stOk s = true) (g1 : 1 ≤ sh) (g2 : sh ≤ 8) (g3 : ep < 1) :
    Calls Try.prog 12 #[r.agg, .int .i64 sh, .int .i64 ep, .int .i64 nu, .int .i64 te, .int .i64 sz] w (RetSA w (sweptS s, Ans.err 2)) := by
  have hl1 : s.tens.length ≤ 900 := by omega
  have HS := Lib.hid h
  have HL := Lib.hid (And.intro hl1 (And.intro hl2 (And.intro hl3 hl4)))
  have HCK := Lib.hid (fun w' (hb : Below w.heap.size w w') => refcheck_st s r B w' (h.below hb) hl1 hl2)
  have HOK := Lib.hid hok
  have HPF := Lib.hid (fun w' (hb : Below w.heap.size w w') => reffind_any s.tens r.ten.a r.ten.n r.ten.c te w' h.ten.len (le_maxLen (by omega)) (Row.below h.trow hb))
  have HRE := Lib.hid (fun w' (hb : Below w.heap.size w w') => refused_ok s r B 2 w' (h.below hb) hl1 hl2 hl3 hl4 hok)
  obtain ⟨term, stamp, next, ⟨a1, n1, c1⟩, ⟨a2, n2, c2⟩, ⟨a3, n3, c3⟩, ⟨a4, n4, c4⟩⟩ := r
  obtain rfl : next = s.next := h.next
  obtain rfl : s.leas.length = n2 := h.lea.len
  have HBX : Hid (∀ w', Below (((w.alloc (.cells #[.int .i64 term, .int .i64 stamp, .int .i64 s.next, .slice a1 n1 c1, .slice a2 s.leas.length c2, .slice a3 n3 c3, .slice a4 n4 c4] 27)).alloc (.cells #[.int .i64 0, .int .i64 0, .int .i64 0, .slice none 0 0, .slice none 0 0, .slice none 0 0, .slice none 0 0] 27)).alloc (.cells #[.int .i64 0, .int .i64 0, .int .i64 0, .int .i64 0, .int .i64 0] 32)).heap.size (((w.alloc (.cells #[.int .i64 term, .int .i64 stamp, .int .i64 s.next, .slice a1 n1 c1, .slice a2 s.leas.length c2, .slice a3 n3 c3, .slice a4 n4 c4] 27)).alloc (.cells #[.int .i64 0, .int .i64 0, .int .i64 0, .slice none 0 0, .slice none 0 0, .slice none 0 0, .slice none 0 0] 27)).alloc (.cells #[.int .i64 0, .int .i64 0, .int .i64 0, .int .i64 0, .int .i64 0] 32)) w' →
      Box w' w.heap.size (Raw.cells ⟨term, stamp, s.next, ⟨a1, n1, c1⟩, ⟨a2, s.leas.length, c2⟩, ⟨a3, n3, c3⟩, ⟨a4, n4, c4⟩⟩) ∧ Box w' (w.heap.size + 1) (Raw.cells ⟨0, 0, 0, ⟨none, 0, 0⟩, ⟨none, 0, 0⟩, ⟨none, 0, 0⟩, ⟨none, 0, 0⟩⟩) ∧ Box w' (w.heap.size + 1 + 1) (Ans.cells ⟨0, 0, 0, 0, 0⟩) ∧ w.heap.size + 3 ≤ w'.heap.size) :=
    fun w' hb => ⟨Box.of_alloc (mid_alloc' (mid_alloc' hb)), Box.of_alloc1 (mid_alloc' hb), Box.of_alloc2 hb, by have := hb.size; simp at this; omega⟩
  clear h hl1 hl2 hl3 hl4 hok
  go_enter Try.func12, Try.ntmps12
  go_wp2_with (first
      | (have hgq := HA8; clear hgq; refine wpList_store_whole layAns rfl (.tmp 13) (.tmp 49) rfl (w.heap.size + 1 + 1) ⟨2, 0, 0, 0, 0⟩ _ rfl rfl HA8.out rfl ?_; intro w9 hbx9 hw9; have HA9 := Lib.hid hbx9; have HW9 := Lib.hid hw9; have HX9 := Lib.hid (HX8.out.wrote hw9 (by omega)); clear hbx9 hw9)
      | (have hgq := hb7; clear hgq; refine wpList_store_whole laySt rfl (.tmp 12) (.tmp 48) rfl (w.heap.size + 1) q _ rfl rfl (HBX.out w7 (by repeat' (first | (with_reducible exact Below.refl _ _) | (with_reducible assumption) | (with_reducible refine Below.drew ?_) | (with_reducible refine Below.more ?_ _) | (with_reducible refine Below.put ?_ ?_ _) | (with_reducible refine Below.next ?_ (by with_reducible assumption)) | (with_reducible exact Nat.le_refl _) | (with_reducible refine Below.size' ?_) | omega))).2.1 rfl ?_; intro w8 hbx8 hw8; have HX8 := Lib.hid hbx8; have HW8 := Lib.hid hw8; have HA8 := Lib.hid ((HBX.out w7 (by repeat' (first | (with_reducible exact Below.refl _ _) | (with_reducible assumption) | (with_reducible refine Below.drew ?_) | (with_reducible refine Below.more ?_ _) | (with_reducible refine Below.put ?_ ?_ _) | (with_reducible refine Below.next ?_ (by with_reducible assumption)) | (with_reducible exact Nat.le_refl _) | (with_reducible refine Below.size' ?_) | omega))).2.2.1.wrote hw8 (by omega)); clear hbx8 hw8)
      | (go_at_call 35; ((with_reducible refine (HRE.out _ (by repeat' (first | (with_reducible exact Below.refl _ _) | (with_reducible assumption) | (with_reducible refine Below.drew ?_) | (with_reducible refine Below.more ?_ _) | (with_reducible refine Below.put ?_ ?_ _) | (with_reducible refine Below.next ?_ (by with_reducible assumption)) | (with_reducible exact Nat.le_refl _) | (with_reducible refine Below.size' ?_) | omega))).mono ?_); rintro e w7 ⟨q, rfl, hst7, hb7⟩; have HST7 := Lib.hid hst7; clear hst7))
      | (go_at_call 16; ((with_reducible refine (HCK.out _ (by repeat' (first | (with_reducible exact Below.refl _ _) | (with_reducible assumption) | (with_reducible refine Below.drew ?_) | (with_reducible refine Below.more ?_ _) | (with_reducible refine Below.put ?_ ?_ _) | (with_reducible refine Below.next ?_ (by with_reducible assumption)) | (with_reducible exact Nat.le_refl _) | (with_reducible refine Below.size' ?_) | omega))).mono ?_); rw [HOK.out]; rintro e w3 ⟨rfl, hb3⟩))
      | (refine wpList_load_as laySt rfl (.tmp 6) rfl w.heap.size 0 rfl ⟨term, stamp, s.next, ⟨a1, n1, c1⟩, ⟨a2, s.leas.length, c2⟩, ⟨a3, n3, c3⟩, ⟨a4, n4, c4⟩⟩ (.agg #[.int .i64 term, .int .i64 stamp, .int .i64 s.next, .slice a1 n1 c1, .slice a2 s.leas.length c2, .slice a3 n3 c3, .slice a4 n4 c4]) rfl (HBX.out _ (by repeat' (first | (with_reducible exact Below.refl _ _) | (with_reducible assumption) | (with_reducible refine Below.drew ?_) | (with_reducible refine Below.more ?_ _) | (with_reducible refine Below.put ?_ ?_ _) | (with_reducible refine Below.next ?_ (by with_reducible assumption)) | (with_reducible exact Nat.le_refl _) | (with_reducible refine Below.size' ?_) | omega))).1.range ?_))
  have q7 := (HBX.out w7 (by repeat' (first | (with_reducible exact Below.refl _ _) | (with_reducible assumption) | (with_reducible refine Below.drew ?_) | (with_reducible refine Below.more ?_ _) | (with_reducible refine Below.put ?_ ?_ _) | (with_reducible refine Below.next ?_ (by with_reducible assumption)) | (with_reducible exact Nat.le_refl _) | (with_reducible refine Below.size' ?_) | omega))).2.2.2
  have qq := (HBX.out w3 (by repeat' (first | (with_reducible exact Below.refl _ _) | (with_reducible assumption) | (with_reducible refine Below.drew ?_) | (with_reducible refine Below.more ?_ _) | (with_reducible refine Below.put ?_ ?_ _) | (with_reducible refine Below.next ?_ (by with_reducible assumption)) | (with_reducible exact Nat.le_refl _) | (with_reducible refine Below.size' ?_) | omega))).2.2.2
  have b7 : Below w.heap.size w w7 := (by repeat' (first | (with_reducible exact Below.refl _ _) | (with_reducible assumption) | (with_reducible refine Below.drew ?_) | (with_reducible refine Below.more ?_ _) | (with_reducible refine Below.put ?_ ?_ _) | (with_reducible refine Below.next ?_ (by with_reducible assumption)) | (with_reducible exact Nat.le_refl _) | (with_reducible refine Below.size' ?_) | omega))
  have b79 : Below w.heap.size w w9 := (b7.trans (HW8.out.below _ (by omega))).trans (HW9.out.below _ (by omega))
  have m79 := ((Mid.refl w3.heap.size w7.heap.size w7).wrote HW8.out (.inl (by omega))).wrote HW9.out (.inl (by omega))
  exact ⟨rfl, refgrant_out (r9 := q) (a := ⟨2, 0, 0, 0, 0⟩) rfl rfl HX9.out HA9.out ((HST7.out.mid m79 (Nat.le_refl _) (Nat.le_refl _)).mono (Nat.zero_le _)) rfl b79⟩
set_option maxHeartbeats 8000000 in
theorem refgrant_arg3 (s : St) (r : Raw) (B : Nat) (sh ep nu te sz : Int) (w : World) (h : StAt w B r s) (hl1' : s.tens.length ≤ 800) (hl2 : s.leas.length ≤ 900) (hl3 : s.sess.length ≤ 900) (hl4 : s.dsks.length ≤ 900)
    (hok : stOk s = true) (g1 : 1 ≤ sh) (g2 : sh ≤ 8) (g3 : 1 ≤ ep) (g4 : nu < 1) :
    Calls Try.prog 12 #[r.agg, .int .i64 sh, .int .i64 ep, .int .i64 nu, .int .i64 te, .int .i64 sz] w (RetSA w (sweptS s, Ans.err 2)) := by
  have hl1 : s.tens.length ≤ 900 := by omega
  have HS := Lib.hid h
  have HL := Lib.hid (And.intro hl1 (And.intro hl2 (And.intro hl3 hl4)))
  have HCK := Lib.hid (fun w' (hb : Below w.heap.size w w') => refcheck_st s r B w' (h.below hb) hl1 hl2)
  have HOK := Lib.hid hok
  have HPF := Lib.hid (fun w' (hb : Below w.heap.size w w') => reffind_any s.tens r.ten.a r.ten.n r.ten.c te w' h.ten.len (le_maxLen (by omega)) (Row.below h.trow hb))
  have HRE := Lib.hid (fun w' (hb : Below w.heap.size w w') => refused_ok s r B 2 w' (h.below hb) hl1 hl2 hl3 hl4 hok)
  obtain ⟨term, stamp, next, ⟨a1, n1, c1⟩, ⟨a2, n2, c2⟩, ⟨a3, n3, c3⟩, ⟨a4, n4, c4⟩⟩ := r
  obtain rfl : next = s.next := h.next
  obtain rfl : s.leas.length = n2 := h.lea.len
  have HBX : Hid (∀ w', Below (((w.alloc (.cells #[.int .i64 term, .int .i64 stamp, .int .i64 s.next, .slice a1 n1 c1, .slice a2 s.leas.length c2, .slice a3 n3 c3, .slice a4 n4 c4] 27)).alloc (.cells #[.int .i64 0, .int .i64 0, .int .i64 0, .slice none 0 0, .slice none 0 0, .slice none 0 0, .slice none 0 0] 27)).alloc (.cells #[.int .i64 0, .int .i64 0, .int .i64 0, .int .i64 0, .int .i64 0] 32)).heap.size (((w.alloc (.cells #[.int .i64 term, .int .i64 stamp, .int .i64 s.next, .slice a1 n1 c1, .slice a2 s.leas.length c2, .slice a3 n3 c3, .slice a4 n4 c4] 27)).alloc (.cells #[.int .i64 0, .int .i64 0, .int .i64 0, .slice none 0 0, .slice none 0 0, .slice none 0 0, .slice none 0 0] 27)).alloc (.cells #[.int .i64 0, .int .i64 0, .int .i64 0, .int .i64 0, .int .i64 0] 32)) w' →
      Box w' w.heap.size (Raw.cells ⟨term, stamp, s.next, ⟨a1, n1, c1⟩, ⟨a2, s.leas.length, c2⟩, ⟨a3, n3, c3⟩, ⟨a4, n4, c4⟩⟩) ∧ Box w' (w.heap.size + 1) (Raw.cells ⟨0, 0, 0, ⟨none, 0, 0⟩, ⟨none, 0, 0⟩, ⟨none, 0, 0⟩, ⟨none, 0, 0⟩⟩) ∧ Box w' (w.heap.size + 1 + 1) (Ans.cells ⟨0, 0, 0, 0, 0⟩) ∧ w.heap.size + 3 ≤ w'.heap.size) :=
    fun w' hb => ⟨Box.of_alloc (mid_alloc' (mid_alloc' hb)), Box.of_alloc1 (mid_alloc' hb), Box.of_alloc2 hb, by have := hb.size; simp at this; omega⟩
  clear h hl1 hl2 hl3 hl4 hok
  go_enter Try.func12, Try.ntmps12
  go_wp2_with (first
      | (have hgq := HA8; clear hgq; refine wpList_store_whole layAns rfl (.tmp 13) (.tmp 49) rfl (w.heap.size + 1 + 1) ⟨2, 0, 0, 0, 0⟩ _ rfl rfl HA8.out rfl ?_; intro w9 hbx9 hw9; have HA9 := Lib.hid hbx9; have HW9 := Lib.hid hw9; have HX9 := Lib.hid (HX8.out.wrote hw9 (by omega)); clear hbx9 hw9)
      | (have hgq := hb7; clear hgq; refine wpList_store_whole laySt rfl (.tmp 12) (.tmp 48) rfl (w.heap.size + 1) q _ rfl rfl (HBX.out w7 (by repeat' (first | (with_reducible exact Below.refl _ _) | (with_reducible assumption) | (with_reducible refine Below.drew ?_) | (with_reducible refine Below.more ?_ _) | (with_reducible refine Below.put ?_ ?_ _) | (with_reducible refine Below.next ?_ (by with_reducible assumption)) | (with_reducible exact Nat.le_refl _) | (with_reducible refine Below.size' ?_) | omega))).2.1 rfl ?_; intro w8 hbx8 hw8; have HX8 := Lib.hid hbx8; have HW8 := Lib.hid hw8; have HA8 := Lib.hid ((HBX.out w7 (by repeat' (first | (with_reducible exact Below.refl _ _) | (with_reducible assumption) | (with_reducible refine Below.drew ?_) | (with_reducible refine Below.more ?_ _) | (with_reducible refine Below.put ?_ ?_ _) | (with_reducible refine Below.next ?_ (by with_reducible assumption)) | (with_reducible exact Nat.le_refl _) | (with_reducible refine Below.size' ?_) | omega))).2.2.1.wrote hw8 (by omega)); clear hbx8 hw8)
      | (go_at_call 35; ((with_reducible refine (HRE.out _ (by repeat' (first | (with_reducible exact Below.refl _ _) | (with_reducible assumption) | (with_reducible refine Below.drew ?_) | (with_reducible refine Below.more ?_ _) | (with_reducible refine Below.put ?_ ?_ _) | (with_reducible refine Below.next ?_ (by with_reducible assumption)) | (with_reducible exact Nat.le_refl _) | (with_reducible refine Below.size' ?_) | omega))).mono ?_); rintro e w7 ⟨q, rfl, hst7, hb7⟩; have HST7 := Lib.hid hst7; clear hst7))
      | (go_at_call 16; ((with_reducible refine (HCK.out _ (by repeat' (first | (with_reducible exact Below.refl _ _) | (with_reducible assumption) | (with_reducible refine Below.drew ?_) | (with_reducible refine Below.more ?_ _) | (with_reducible refine Below.put ?_ ?_ _) | (with_reducible refine Below.next ?_ (by with_reducible assumption)) | (with_reducible exact Nat.le_refl _) | (with_reducible refine Below.size' ?_) | omega))).mono ?_); rw [HOK.out]; rintro e w3 ⟨rfl, hb3⟩))
      | (refine wpList_load_as laySt rfl (.tmp 6) rfl w.heap.size 0 rfl ⟨term, stamp, s.next, ⟨a1, n1, c1⟩, ⟨a2, s.leas.length, c2⟩, ⟨a3, n3, c3⟩, ⟨a4, n4, c4⟩⟩ (.agg #[.int .i64 term, .int .i64 stamp, .int .i64 s.next, .slice a1 n1 c1, .slice a2 s.leas.length c2, .slice a3 n3 c3, .slice a4 n4 c4]) rfl (HBX.out _ (by repeat' (first | (with_reducible exact Below.refl _ _) | (with_reducible assumption) | (with_reducible refine Below.drew ?_) | (with_reducible refine Below.more ?_ _) | (with_reducible refine Below.put ?_ ?_ _) | (with_reducible refine Below.next ?_ (by with_reducible assumption)) | (with_reducible exact Nat.le_refl _) | (with_reducible refine Below.size' ?_) | omega))).1.range ?_))
  have q7 := (HBX.out w7 (by repeat' (first | (with_reducible exact Below.refl _ _) | (with_reducible assumption) | (with_reducible refine Below.drew ?_) | (with_reducible refine Below.more ?_ _) | (with_reducible refine Below.put ?_ ?_ _) | (with_reducible refine Below.next ?_ (by with_reducible assumption)) | (with_reducible exact Nat.le_refl _) | (with_reducible refine Below.size' ?_) | omega))).2.2.2
  have qq := (HBX.out w3 (by repeat' (first | (with_reducible exact Below.refl _ _) | (with_reducible assumption) | (with_reducible refine Below.drew ?_) | (with_reducible refine Below.more ?_ _) | (with_reducible refine Below.put ?_ ?_ _) | (with_reducible refine Below.next ?_ (by with_reducible assumption)) | (with_reducible exact Nat.le_refl _) | (with_reducible refine Below.size' ?_) | omega))).2.2.2
  have b7 : Below w.heap.size w w7 := (by repeat' (first | (with_reducible exact Below.refl _ _) | (with_reducible assumption) | (with_reducible refine Below.drew ?_) | (with_reducible refine Below.more ?_ _) | (with_reducible refine Below.put ?_ ?_ _) | (with_reducible refine Below.next ?_ (by with_reducible assumption)) | (with_reducible exact Nat.le_refl _) | (with_reducible refine Below.size' ?_) | omega))
  have b79 : Below w.heap.size w w9 := (b7.trans (HW8.out.below _ (by omega))).trans (HW9.out.below _ (by omega))
  have m79 := ((Mid.refl w3.heap.size w7.heap.size w7).wrote HW8.out (.inl (by omega))).wrote HW9.out (.inl (by omega))
  exact ⟨rfl, refgrant_out (r9 := q) (a := ⟨2, 0, 0, 0, 0⟩) rfl rfl HX9.out HA9.out ((HST7.out.mid m79 (Nat.le_refl _) (Nat.le_refl _)).mono (Nat.zero_le _)) rfl b79⟩
set_option maxHeartbeats 8000000 in
theorem refgrant_arg4 (s : St) (r : Raw) (B : Nat) (sh ep nu te sz : Int) (w : World) (h : StAt w B r s) (hl1' : s.tens.length ≤ 800) (hl2 : s.leas.length ≤ 900) (hl3 : s.sess.length ≤ 900) (hl4 : s.dsks.length ≤ 900)
    (hok : stOk s = true) (g1 : 1 ≤ sh) (g2 : sh ≤ 8) (g3 : 1 ≤ ep) (g4 : 1 ≤ nu) (g5 : sz < 1) :
    Calls Try.prog 12 #[r.agg, .int .i64 sh, .int .i64 ep, .int .i64 nu, .int .i64 te, .int .i64 sz] w (RetSA w (sweptS s, Ans.err 2)) := by
  have hl1 : s.tens.length ≤ 900 := by omega
  have HS := Lib.hid h
  have HL := Lib.hid (And.intro hl1 (And.intro hl2 (And.intro hl3 hl4)))
  have HCK := Lib.hid (fun w' (hb : Below w.heap.size w w') => refcheck_st s r B w' (h.below hb) hl1 hl2)
  have HOK := Lib.hid hok
  have HPF := Lib.hid (fun w' (hb : Below w.heap.size w w') => reffind_any s.tens r.ten.a r.ten.n r.ten.c te w' h.ten.len (le_maxLen (by omega)) (Row.below h.trow hb))
  have HRE := Lib.hid (fun w' (hb : Below w.heap.size w w') => refused_ok s r B 2 w' (h.below hb) hl1 hl2 hl3 hl4 hok)
  obtain ⟨term, stamp, next, ⟨a1, n1, c1⟩, ⟨a2, n2, c2⟩, ⟨a3, n3, c3⟩, ⟨a4, n4, c4⟩⟩ := r
  obtain rfl : next = s.next := h.next
  obtain rfl : s.leas.length = n2 := h.lea.len
  have HBX : Hid (∀ w', Below (((w.alloc (.cells #[.int .i64 term, .int .i64 stamp, .int .i64 s.next, .slice a1 n1 c1, .slice a2 s.leas.length c2, .slice a3 n3 c3, .slice a4 n4 c4] 27)).alloc (.cells #[.int .i64 0, .int .i64 0, .int .i64 0, .slice none 0 0, .slice none 0 0, .slice none 0 0, .slice none 0 0] 27)).alloc (.cells #[.int .i64 0, .int .i64 0, .int .i64 0, .int .i64 0, .int .i64 0] 32)).heap.size (((w.alloc (.cells #[.int .i64 term, .int .i64 stamp, .int .i64 s.next, .slice a1 n1 c1, .slice a2 s.leas.length c2, .slice a3 n3 c3, .slice a4 n4 c4] 27)).alloc (.cells #[.int .i64 0, .int .i64 0, .int .i64 0, .slice none 0 0, .slice none 0 0, .slice none 0 0, .slice none 0 0] 27)).alloc (.cells #[.int .i64 0, .int .i64 0, .int .i64 0, .int .i64 0, .int .i64 0] 32)) w' →
      Box w' w.heap.size (Raw.cells ⟨term, stamp, s.next, ⟨a1, n1, c1⟩, ⟨a2, s.leas.length, c2⟩, ⟨a3, n3, c3⟩, ⟨a4, n4, c4⟩⟩) ∧ Box w' (w.heap.size + 1) (Raw.cells ⟨0, 0, 0, ⟨none, 0, 0⟩, ⟨none, 0, 0⟩, ⟨none, 0, 0⟩, ⟨none, 0, 0⟩⟩) ∧ Box w' (w.heap.size + 1 + 1) (Ans.cells ⟨0, 0, 0, 0, 0⟩) ∧ w.heap.size + 3 ≤ w'.heap.size) :=
    fun w' hb => ⟨Box.of_alloc (mid_alloc' (mid_alloc' hb)), Box.of_alloc1 (mid_alloc' hb), Box.of_alloc2 hb, by have := hb.size; simp at this; omega⟩
  clear h hl1 hl2 hl3 hl4 hok
  go_enter Try.func12, Try.ntmps12
  go_wp2_with (first
      | (have hgq := HA8; clear hgq; refine wpList_store_whole layAns rfl (.tmp 13) (.tmp 49) rfl (w.heap.size + 1 + 1) ⟨2, 0, 0, 0, 0⟩ _ rfl rfl HA8.out rfl ?_; intro w9 hbx9 hw9; have HA9 := Lib.hid hbx9; have HW9 := Lib.hid hw9; have HX9 := Lib.hid (HX8.out.wrote hw9 (by omega)); clear hbx9 hw9)
      | (have hgq := hb7; clear hgq; refine wpList_store_whole laySt rfl (.tmp 12) (.tmp 48) rfl (w.heap.size + 1) q _ rfl rfl (HBX.out w7 (by repeat' (first | (with_reducible exact Below.refl _ _) | (with_reducible assumption) | (with_reducible refine Below.drew ?_) | (with_reducible refine Below.more ?_ _) | (with_reducible refine Below.put ?_ ?_ _) | (with_reducible refine Below.next ?_ (by with_reducible assumption)) | (with_reducible exact Nat.le_refl _) | (with_reducible refine Below.size' ?_) | omega))).2.1 rfl ?_; intro w8 hbx8 hw8; have HX8 := Lib.hid hbx8; have HW8 := Lib.hid hw8; have HA8 := Lib.hid ((HBX.out w7 (by repeat' (first | (with_reducible exact Below.refl _ _) | (with_reducible assumption) | (with_reducible refine Below.drew ?_) | (with_reducible refine Below.more ?_ _) | (with_reducible refine Below.put ?_ ?_ _) | (with_reducible refine Below.next ?_ (by with_reducible assumption)) | (with_reducible exact Nat.le_refl _) | (with_reducible refine Below.size' ?_) | omega))).2.2.1.wrote hw8 (by omega)); clear hbx8 hw8)
      | (go_at_call 35; ((with_reducible refine (HRE.out _ (by repeat' (first | (with_reducible exact Below.refl _ _) | (with_reducible assumption) | (with_reducible refine Below.drew ?_) | (with_reducible refine Below.more ?_ _) | (with_reducible refine Below.put ?_ ?_ _) | (with_reducible refine Below.next ?_ (by with_reducible assumption)) | (with_reducible exact Nat.le_refl _) | (with_reducible refine Below.size' ?_) | omega))).mono ?_); rintro e w7 ⟨q, rfl, hst7, hb7⟩; have HST7 := Lib.hid hst7; clear hst7))
      | (go_at_call 16; ((with_reducible refine (HCK.out _ (by repeat' (first | (with_reducible exact Below.refl _ _) | (with_reducible assumption) | (with_reducible refine Below.drew ?_) | (with_reducible refine Below.more ?_ _) | (with_reducible refine Below.put ?_ ?_ _) | (with_reducible refine Below.next ?_ (by with_reducible assumption)) | (with_reducible exact Nat.le_refl _) | (with_reducible refine Below.size' ?_) | omega))).mono ?_); rw [HOK.out]; rintro e w3 ⟨rfl, hb3⟩))
      | (refine wpList_load_as laySt rfl (.tmp 6) rfl w.heap.size 0 rfl ⟨term, stamp, s.next, ⟨a1, n1, c1⟩, ⟨a2, s.leas.length, c2⟩, ⟨a3, n3, c3⟩, ⟨a4, n4, c4⟩⟩ (.agg #[.int .i64 term, .int .i64 stamp, .int .i64 s.next, .slice a1 n1 c1, .slice a2 s.leas.length c2, .slice a3 n3 c3, .slice a4 n4 c4]) rfl (HBX.out _ (by repeat' (first | (with_reducible exact Below.refl _ _) | (with_reducible assumption) | (with_reducible refine Below.drew ?_) | (with_reducible refine Below.more ?_ _) | (with_reducible refine Below.put ?_ ?_ _) | (with_reducible refine Below.next ?_ (by with_reducible assumption)) | (with_reducible exact Nat.le_refl _) | (with_reducible refine Below.size' ?_) | omega))).1.range ?_))
  have q7 := (HBX.out w7 (by repeat' (first | (with_reducible exact Below.refl _ _) | (with_reducible assumption) | (with_reducible refine Below.drew ?_) | (with_reducible refine Below.more ?_ _) | (with_reducible refine Below.put ?_ ?_ _) | (with_reducible refine Below.next ?_ (by with_reducible assumption)) | (with_reducible exact Nat.le_refl _) | (with_reducible refine Below.size' ?_) | omega))).2.2.2
  have qq := (HBX.out w3 (by repeat' (first | (with_reducible exact Below.refl _ _) | (with_reducible assumption) | (with_reducible refine Below.drew ?_) | (with_reducible refine Below.more ?_ _) | (with_reducible refine Below.put ?_ ?_ _) | (with_reducible refine Below.next ?_ (by with_reducible assumption)) | (with_reducible exact Nat.le_refl _) | (with_reducible refine Below.size' ?_) | omega))).2.2.2
  have b7 : Below w.heap.size w w7 := (by repeat' (first | (with_reducible exact Below.refl _ _) | (with_reducible assumption) | (with_reducible refine Below.drew ?_) | (with_reducible refine Below.more ?_ _) | (with_reducible refine Below.put ?_ ?_ _) | (with_reducible refine Below.next ?_ (by with_reducible assumption)) | (with_reducible exact Nat.le_refl _) | (with_reducible refine Below.size' ?_) | omega))
  have b79 : Below w.heap.size w w9 := (b7.trans (HW8.out.below _ (by omega))).trans (HW9.out.below _ (by omega))
  have m79 := ((Mid.refl w3.heap.size w7.heap.size w7).wrote HW8.out (.inl (by omega))).wrote HW9.out (.inl (by omega))
  exact ⟨rfl, refgrant_out (r9 := q) (a := ⟨2, 0, 0, 0, 0⟩) rfl rfl HX9.out HA9.out ((HST7.out.mid m79 (Nat.le_refl _) (Nat.le_refl _)).mono (Nat.zero_le _)) rfl b79⟩
set_option maxHeartbeats 8000000 in
theorem refgrant_arg5 (s : St) (r : Raw) (B : Nat) (sh ep nu te sz : Int) (w : World) (h : StAt w B r s) (hl1' : s.tens.length ≤ 800) (hl2 : s.leas.length ≤ 900) (hl3 : s.sess.length ≤ 900) (hl4 : s.dsks.length ≤ 900)
    (hok : stOk s = true) (g1 : 1 ≤ sh) (g2 : sh ≤ 8) (g3 : 1 ≤ ep) (g4 : 1 ≤ nu) (g5 : 1 ≤ sz) (g6 : 1000000 < sz) :
    Calls Try.prog 12 #[r.agg, .int .i64 sh, .int .i64 ep, .int .i64 nu, .int .i64 te, .int .i64 sz] w (RetSA w (sweptS s, Ans.err 2)) := by
  have hl1 : s.tens.length ≤ 900 := by omega
  have HS := Lib.hid h
  have HL := Lib.hid (And.intro hl1 (And.intro hl2 (And.intro hl3 hl4)))
  have HCK := Lib.hid (fun w' (hb : Below w.heap.size w w') => refcheck_st s r B w' (h.below hb) hl1 hl2)
  have HOK := Lib.hid hok
  have HPF := Lib.hid (fun w' (hb : Below w.heap.size w w') => reffind_any s.tens r.ten.a r.ten.n r.ten.c te w' h.ten.len (le_maxLen (by omega)) (Row.below h.trow hb))
  have HRE := Lib.hid (fun w' (hb : Below w.heap.size w w') => refused_ok s r B 2 w' (h.below hb) hl1 hl2 hl3 hl4 hok)
  obtain ⟨term, stamp, next, ⟨a1, n1, c1⟩, ⟨a2, n2, c2⟩, ⟨a3, n3, c3⟩, ⟨a4, n4, c4⟩⟩ := r
  obtain rfl : next = s.next := h.next
  obtain rfl : s.leas.length = n2 := h.lea.len
  have HBX : Hid (∀ w', Below (((w.alloc (.cells #[.int .i64 term, .int .i64 stamp, .int .i64 s.next, .slice a1 n1 c1, .slice a2 s.leas.length c2, .slice a3 n3 c3, .slice a4 n4 c4] 27)).alloc (.cells #[.int .i64 0, .int .i64 0, .int .i64 0, .slice none 0 0, .slice none 0 0, .slice none 0 0, .slice none 0 0] 27)).alloc (.cells #[.int .i64 0, .int .i64 0, .int .i64 0, .int .i64 0, .int .i64 0] 32)).heap.size (((w.alloc (.cells #[.int .i64 term, .int .i64 stamp, .int .i64 s.next, .slice a1 n1 c1, .slice a2 s.leas.length c2, .slice a3 n3 c3, .slice a4 n4 c4] 27)).alloc (.cells #[.int .i64 0, .int .i64 0, .int .i64 0, .slice none 0 0, .slice none 0 0, .slice none 0 0, .slice none 0 0] 27)).alloc (.cells #[.int .i64 0, .int .i64 0, .int .i64 0, .int .i64 0, .int .i64 0] 32)) w' →
      Box w' w.heap.size (Raw.cells ⟨term, stamp, s.next, ⟨a1, n1, c1⟩, ⟨a2, s.leas.length, c2⟩, ⟨a3, n3, c3⟩, ⟨a4, n4, c4⟩⟩) ∧ Box w' (w.heap.size + 1) (Raw.cells ⟨0, 0, 0, ⟨none, 0, 0⟩, ⟨none, 0, 0⟩, ⟨none, 0, 0⟩, ⟨none, 0, 0⟩⟩) ∧ Box w' (w.heap.size + 1 + 1) (Ans.cells ⟨0, 0, 0, 0, 0⟩) ∧ w.heap.size + 3 ≤ w'.heap.size) :=
    fun w' hb => ⟨Box.of_alloc (mid_alloc' (mid_alloc' hb)), Box.of_alloc1 (mid_alloc' hb), Box.of_alloc2 hb, by have := hb.size; simp at this; omega⟩
  clear h hl1 hl2 hl3 hl4 hok
  go_enter Try.func12, Try.ntmps12
  go_wp2_with (first
      | (have hgq := HA8; clear hgq; refine wpList_store_whole layAns rfl (.tmp 13) (.tmp 49) rfl (w.heap.size + 1 + 1) ⟨2, 0, 0, 0, 0⟩ _ rfl rfl HA8.out rfl ?_; intro w9 hbx9 hw9; have HA9 := Lib.hid hbx9; have HW9 := Lib.hid hw9; have HX9 := Lib.hid (HX8.out.wrote hw9 (by omega)); clear hbx9 hw9)
      | (have hgq := hb7; clear hgq; refine wpList_store_whole laySt rfl (.tmp 12) (.tmp 48) rfl (w.heap.size + 1) q _ rfl rfl (HBX.out w7 (by repeat' (first | (with_reducible exact Below.refl _ _) | (with_reducible assumption) | (with_reducible refine Below.drew ?_) | (with_reducible refine Below.more ?_ _) | (with_reducible refine Below.put ?_ ?_ _) | (with_reducible refine Below.next ?_ (by with_reducible assumption)) | (with_reducible exact Nat.le_refl _) | (with_reducible refine Below.size' ?_) | omega))).2.1 rfl ?_; intro w8 hbx8 hw8; have HX8 := Lib.hid hbx8; have HW8 := Lib.hid hw8; have HA8 := Lib.hid ((HBX.out w7 (by repeat' (first | (with_reducible exact Below.refl _ _) | (with_reducible assumption) | (with_reducible refine Below.drew ?_) | (with_reducible refine Below.more ?_ _) | (with_reducible refine Below.put ?_ ?_ _) | (with_reducible refine Below.next ?_ (by with_reducible assumption)) | (with_reducible exact Nat.le_refl _) | (with_reducible refine Below.size' ?_) | omega))).2.2.1.wrote hw8 (by omega)); clear hbx8 hw8)
      | (go_at_call 35; ((with_reducible refine (HRE.out _ (by repeat' (first | (with_reducible exact Below.refl _ _) | (with_reducible assumption) | (with_reducible refine Below.drew ?_) | (with_reducible refine Below.more ?_ _) | (with_reducible refine Below.put ?_ ?_ _) | (with_reducible refine Below.next ?_ (by with_reducible assumption)) | (with_reducible exact Nat.le_refl _) | (with_reducible refine Below.size' ?_) | omega))).mono ?_); rintro e w7 ⟨q, rfl, hst7, hb7⟩; have HST7 := Lib.hid hst7; clear hst7))
      | (go_at_call 16; ((with_reducible refine (HCK.out _ (by repeat' (first | (with_reducible exact Below.refl _ _) | (with_reducible assumption) | (with_reducible refine Below.drew ?_) | (with_reducible refine Below.more ?_ _) | (with_reducible refine Below.put ?_ ?_ _) | (with_reducible refine Below.next ?_ (by with_reducible assumption)) | (with_reducible exact Nat.le_refl _) | (with_reducible refine Below.size' ?_) | omega))).mono ?_); rw [HOK.out]; rintro e w3 ⟨rfl, hb3⟩))
      | (refine wpList_load_as laySt rfl (.tmp 6) rfl w.heap.size 0 rfl ⟨term, stamp, s.next, ⟨a1, n1, c1⟩, ⟨a2, s.leas.length, c2⟩, ⟨a3, n3, c3⟩, ⟨a4, n4, c4⟩⟩ (.agg #[.int .i64 term, .int .i64 stamp, .int .i64 s.next, .slice a1 n1 c1, .slice a2 s.leas.length c2, .slice a3 n3 c3, .slice a4 n4 c4]) rfl (HBX.out _ (by repeat' (first | (with_reducible exact Below.refl _ _) | (with_reducible assumption) | (with_reducible refine Below.drew ?_) | (with_reducible refine Below.more ?_ _) | (with_reducible refine Below.put ?_ ?_ _) | (with_reducible refine Below.next ?_ (by with_reducible assumption)) | (with_reducible exact Nat.le_refl _) | (with_reducible refine Below.size' ?_) | omega))).1.range ?_))
  have q7 := (HBX.out w7 (by repeat' (first | (with_reducible exact Below.refl _ _) | (with_reducible assumption) | (with_reducible refine Below.drew ?_) | (with_reducible refine Below.more ?_ _) | (with_reducible refine Below.put ?_ ?_ _) | (with_reducible refine Below.next ?_ (by with_reducible assumption)) | (with_reducible exact Nat.le_refl _) | (with_reducible refine Below.size' ?_) | omega))).2.2.2
  have qq := (HBX.out w3 (by repeat' (first | (with_reducible exact Below.refl _ _) | (with_reducible assumption) | (with_reducible refine Below.drew ?_) | (with_reducible refine Below.more ?_ _) | (with_reducible refine Below.put ?_ ?_ _) | (with_reducible refine Below.next ?_ (by with_reducible assumption)) | (with_reducible exact Nat.le_refl _) | (with_reducible refine Below.size' ?_) | omega))).2.2.2
  have b7 : Below w.heap.size w w7 := (by repeat' (first | (with_reducible exact Below.refl _ _) | (with_reducible assumption) | (with_reducible refine Below.drew ?_) | (with_reducible refine Below.more ?_ _) | (with_reducible refine Below.put ?_ ?_ _) | (with_reducible refine Below.next ?_ (by with_reducible assumption)) | (with_reducible exact Nat.le_refl _) | (with_reducible refine Below.size' ?_) | omega))
  have b79 : Below w.heap.size w w9 := (b7.trans (HW8.out.below _ (by omega))).trans (HW9.out.below _ (by omega))
  have m79 := ((Mid.refl w3.heap.size w7.heap.size w7).wrote HW8.out (.inl (by omega))).wrote HW9.out (.inl (by omega))
  exact ⟨rfl, refgrant_out (r9 := q) (a := ⟨2, 0, 0, 0, 0⟩) rfl rfl HX9.out HA9.out ((HST7.out.mid m79 (Nat.le_refl _) (Nat.le_refl _)).mono (Nat.zero_le _)) rfl b79⟩
end Go.Proofs.Ytoofmofaimdhpaa

/- The document's grant: a copy boxed, its tenants put, a lease appended: the state that comes of it. -/
namespace Go.Proofs.Ytoofmofaimdhpaa
open Go.ChangeShapes Go.WideShapes Go.ChangeAt Go.RowKit
set_option maxRecDepth 100000

section
variable {P : Program} {e : TypeId} {α : Type} {L : Lay P e α}
theorem LRow.keepB {w w' : World} {a : Option Addr} {xs : List α} {g : Nat} (h : LRow L w a xs) (hn : ∀ b o s, a = some ⟨b, o, s⟩ → b ≠ g) (hk : ∀ k, k ≠ g → w'.heap[k]? = w.heap[k]?) : LRow L w' a xs :=
  h.keep (g := g) (fun k _ hne => hk k hne) hn
theorem LRow.block {w7 : World} {a : Option Addr} {xs : List α} (h7 : LRow L w7 a xs) (h0 : xs ≠ []) {b o : Nat} {s : Option Nat} (hs : a = some ⟨b, o, s⟩) : b < w7.heap.size := by
  have hc0 : xs.flatMap L.cells ≠ [] := by
    intro h1
    have h2 := congrArg List.length h1
    rw [L.length, List.length_nil, Nat.mul_eq_zero] at h2
    have := L.pos
    have : 0 < xs.length := List.length_pos_iff.2 h0
    omega
  rcases h7 with h | ⟨b', o', rfl, hc⟩
  · exact absurd h hc0
  · have hlt := Row.lt (.inr ⟨b', o', rfl, hc⟩) hc0
    cases hs
    exact hlt
theorem LRow.keepN {w7 w w' : World} {a : Option Addr} {xs : List α} {g : Nat} (h : LRow L w a xs) (h7 : LRow L w7 a xs) (hg : w7.heap.size ≤ g) (hk : ∀ k, k ≠ g → w'.heap[k]? = w.heap[k]?) : LRow L w' a xs := by
  by_cases h0 : xs = []
  · subst h0; exact .inl rfl
  · exact h.keepB (fun b o s hs => by have := h7.block h0 hs; omega) hk
end
theorem grown_ref {w7 w9 w10 w11 w12 w13 : World} {B g : Nat} {t4 s4 n4 nx : Int} {x1 x2 x3 x4 xa xb : Option Addr} {m1 y1 m2 y2 m3 y3 m4 y4 ya yb : Nat} {s : St} {ts : List Tenant} {l : Lease} {o : Obj} {r : Raw}
    (h7 : OwnSt w7 B ⟨t4, s4, n4, ⟨x1, m1, y1⟩, ⟨x2, m2, y2⟩, ⟨x3, m3, y3⟩, ⟨x4, m4, y4⟩⟩ s) (hB : B ≤ w7.heap.size) (hne : s.tens ≠ []) (hg : w7.heap.size = g) (m9 : Mid B w7.heap.size w7 w9)
    (hle : ts.length ≤ ya) (hnil : xa = none → ya = 0) (hnear : Near (w7.heap.size + 1) x1 xa) (hrow : TRow w9 xa ts) (hw10 : Wrote g w9 w10) (hg11 : (w10.alloc o).grownBy w11 (Value.slice x2 m2 y2).ownBlock)
    (hown : w11.ownsRow B 38 7 (.slice xb (m2 + 1) yb) (m2 + 1) (s.leas.flatMap layLea.cells ++ layLea.cells l)) (hbx : Box w11 g r.cells) (hw12 : Wrote g w11 w12) (hw13 : Wrote g w12 w13) :
    StAt w13 B ⟨t4, s4, nx, ⟨xa, ts.length, ya⟩, ⟨xb, m2 + 1, yb⟩, ⟨x3, m3, y3⟩, ⟨x4, m4, y4⟩⟩ { s with tens := ts, leas := s.leas ++ [l], next := nx } := by
  have hxg : ∀ b q o, xa = some ⟨b, q, o⟩ → b ≠ g := fun b q o ha => by
    rcases hnear b q o ha with h1 | ⟨q', o', h1⟩
    · omega
    · have := LRow.block (L := layTen) (w7 := w7) h7.is.ten.row hne h1
      omega
  have m10 : Mid B w7.heap.size w7 w10 := m9.wrote hw10 (.inr (by omega))
  have h10 := h7.mid m10 (Nat.le_refl _) (Nat.le_refl _)
  have t10 : SliAt layTen w10 B ⟨xa, ts.length, ya⟩ ts := ⟨rfl, hle, hnil, near_of hnear h7.is.ten.near (by omega), LRow.keepB (L := layTen) hrow hxg hw10.keep⟩
  have hba : Below w10.heap.size w10 (w10.alloc o) := (Below.refl _ _).alloc (Nat.le_refl _) o
  have hxa : ∀ b q o, xa = some ⟨b, q, o⟩ → some b ≠ (Value.slice x2 m2 y2).ownBlock := fun b q o ha => by
    rcases hnear b q o ha with h1 | ⟨q', o', h1⟩
    · intro e
      cases x2 with
      | none => simp [Value.ownBlock] at e
      | some ad =>
        obtain ⟨y, u, v⟩ := ad
        simp [Value.ownBlock] at e
        have h2 : y < w7.heap.size := h7.lt y u v rfl
        omega
    · exact ap_own h7.tl.symm b q' o' h1
  have t11 := (t10.below hba).grown hg11 hxa
  have s11 := (h10.is.ses.below hba).grown hg11 (ap_own h7.ls)
  have d11 := (h10.is.dsk.below hba).grown hg11 (ap_own h7.ld)
  have hn2 : s.leas.length = m2 := h7.is.lea.len
  obtain ⟨a', c', hv, hc1, hc2, hc3⟩ := own_slice hown
  simp only [Value.slice.injEq] at hv
  obtain ⟨rfl, _, rfl⟩ := hv
  have hr11 : Row w11 xb (s.leas.flatMap layLea.cells ++ layLea.cells l) := own_row hown
  obtain ⟨gx, hx0, -, -⟩ := own_head hown (by
    intro h1
    have h2 := congrArg List.length h1
    rw [List.length_append, layLea.len, List.length_nil] at h2
    have := layLea.pos
    omega)
  have hxb : ∀ b q o, xb = some ⟨b, q, o⟩ → b ≠ g := fun b q o hb e => by
    rw [hx0] at hb
    simp only [Option.some.injEq, Addr.mk.injEq] at hb
    obtain ⟨rfl, -, -⟩ := hb
    subst e
    rcases hr11 with h1 | ⟨b', o', hb', hc⟩
    · have h2 := congrArg List.length h1
      rw [List.length_append, layLea.len, List.length_nil] at h2
      have := layLea.pos
      omega
    · rw [hx0] at hb'
      simp only [Option.some.injEq, Addr.mk.injEq] at hb'
      obtain ⟨rfl, rfl, -⟩ := hb'
      have h3 := hbx.cell (j := 3) rfl
      have hlen : 3 < (s.leas.flatMap layLea.cells ++ layLea.cells l).length := by
        rw [List.length_append, layLea.len]
        show 3 < _ + 7
        omega
      have h4 := hc 3 hlen
      rw [Nat.zero_add, h3] at h4
      have h5 : (s.leas.flatMap layLea.cells ++ layLea.cells l)[3]? = some (Value.slice r.ten.a r.ten.n r.ten.c) := by rw [List.getElem?_eq_getElem hlen, ← h4]
      clear h4
      cases hs : s.leas with
      | nil => rw [hs] at h5; cases h5
      | cons y ys => rw [hs] at h5; cases h5
  have hnr := Near.own (src := none) hown (Nat.le_refl _)
  have l11 : SliAt layLea w11 B ⟨xb, m2 + 1, yb⟩ (s.leas ++ [l]) := ⟨by simp [hn2], hc1, hc3, hnr, by
    show Row w11 xb ((s.leas ++ [l]).flatMap layLea.cells)
    rw [List.flatMap_append]; simpa using hr11⟩
  have hg7 : w7.heap.size ≤ g := by omega
  exact ⟨h7.is.term, h7.is.stamp, rfl,
    ⟨t11.len, t11.le, t11.nil, t11.near, (t11.row.keepB hxg hw12.keep).keepB hxg hw13.keep⟩,
    ⟨l11.len, l11.le, l11.nil, l11.near, (l11.row.keepB hxb hw12.keep).keepB hxb hw13.keep⟩,
    ⟨s11.len, s11.le, s11.nil, s11.near, (s11.row.keepN h7.is.ses.row hg7 hw12.keep).keepN h7.is.ses.row hg7 hw13.keep⟩,
    ⟨d11.len, d11.le, d11.nil, d11.near, (d11.row.keepN h7.is.dsk.row hg7 hw12.keep).keepN h7.is.dsk.row hg7 hw13.keep⟩⟩
/-- Two variables written one behind the other. -/
theorem two_wrote0 {w w14 w15 : World} {g : Nat} {c1 c2 : List Value} {F : World → Prop} (p14 : Box w14 (g + 1) c1 ∧ Wrote (g + 1) w w14) (p15 : Box w15 (g + 1 + 1) c2 ∧ Wrote (g + 1 + 1) w14 w15)
    (hq : ∀ w', Box w' (g + 1) c1 → Box w' (g + 1 + 1) c2 → w'.heap.size = w.heap.size → (∀ k, k ≠ g + 1 → k ≠ g + 1 + 1 → w'.heap[k]? = w.heap[k]?) → (∀ B, B ≤ g + 1 → Below B w w') → F w') : F w15 :=
  hq _ (p14.1.wrote p15.2 (by omega)) p15.1 (p15.2.size.trans p14.2.size) (fun k e1 e2 => (p15.2.keep k e2).trans (p14.2.keep k e1)) (fun B hB => (p14.2.below B hB).trans (p15.2.below B (by omega)))
end Go.Proofs.Ytoofmofaimdhpaa
