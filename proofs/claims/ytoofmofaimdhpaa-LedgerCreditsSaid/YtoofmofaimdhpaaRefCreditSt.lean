import Derived.Test.YtoofmofaimdhpaaLedCredit
import Derived.Test.YtoofmofaimdhpaaRefCred
import Derived.Test.YtoofmofaimdhpaaPackLedgerCredits1
import Derived.Deep.RegionHeld3
set_option linter.unusedVariables false
set_option linter.unusedSimpArgs false
namespace Go.Proofs.Ytoofmofaimdhpaa
open Go.ChangeShapes Go.WideShapes Go.ChangeAt Go.RowKit
set_option maxRecDepth 100000

theorem OwnSli.mine2 {P : Program} {e : TypeId} {α : Type} {L : Lay P e α} {w : World} {B : Nat} {a : Option Addr} {n c : Nat} {xs : List α} (ho : OwnSli L w B ⟨a, n, c⟩ xs) (hn : xs.length = n) (hB : B ≤ w.heap.size) :
    ∃ g, B ≤ g ∧ (xs ≠ [] → a = some ⟨g, 0, none⟩ ∧ g < w.heap.size) ∧ (xs ≠ [] → Mine L w B g 0 xs) ∧ ((∃ o q, a = some ⟨g, o, q⟩) ∨ g = w.heap.size) ∧ (xs = [] → g = w.heap.size) := by
  by_cases h0 : xs = []
  · exact ⟨w.heap.size, hB, fun h => absurd h0 h, fun h => absurd h0 h, .inr rfl, fun _ => rfl⟩
  · obtain ⟨g, h1, h2, h3, h4⟩ := ho.mine hn hB
    exact ⟨g, h1, h2, h3, h4, fun h => absurd h h0⟩

set_option maxHeartbeats 4000000 in
theorem refcredit_st (s : St) (r : Raw) (B : Nat) (ticks : Int) (w : World) (h : StAt w B r s) (hl1 : s.tens.length ≤ 900) (hl2 : s.leas.length ≤ 900) (hl3 : s.sess.length ≤ 900) (hl4 : s.dsks.length ≤ 900) :
    Calls Try.prog 21 #[r.agg, .int .i64 ticks] w (RetSt w 0 (creditS s ticks)) := by
  have HS := Lib.hid h
  have HL := Lib.hid (And.intro hl1 (And.intro hl2 (And.intro hl3 hl4)))
  have HCK := Lib.hid (fun w' (hb : Below w.heap.size w w') => refcheck_st s r B w' (h.below hb) hl1 hl2)
  have HCP := Lib.hid (fun w' (hb : Below w.heap.size w w') => refcopy_st s r B w' (h.below hb) hl1 hl2 hl3 hl4)
  have HOU := Lib.hid (fun (hf : Fits s.leas) id w' (hb : Below w.heap.size w w') => refout_any s.leas r id w' h.lea.len (by omega) hf (h.lea.row.below hb))
  have HE : Hid (creditS s ticks = if stOk s = true then sweptS { s with tens := s.tens.map (credT s.leas ticks) } else s) := rfl
  generalize creditS s ticks = res at HE ⊢
  obtain ⟨term, stamp, next, ⟨a1, n1, c1⟩, ⟨a2, n2, c2⟩, ⟨a3, n3, c3⟩, ⟨a4, n4, c4⟩⟩ := r
  have HBX : Hid (∀ w', Below ((w.alloc (.cells #[.int .i64 term, .int .i64 stamp, .int .i64 next, .slice a1 n1 c1, .slice a2 n2 c2, .slice a3 n3 c3, .slice a4 n4 c4] 27)).alloc (.cells #[.int .i64 0, .int .i64 0, .int .i64 0, .slice none 0 0, .slice none 0 0, .slice none 0 0, .slice none 0 0] 27)).heap.size ((w.alloc (.cells #[.int .i64 term, .int .i64 stamp, .int .i64 next, .slice a1 n1 c1, .slice a2 n2 c2, .slice a3 n3 c3, .slice a4 n4 c4] 27)).alloc (.cells #[.int .i64 0, .int .i64 0, .int .i64 0, .slice none 0 0, .slice none 0 0, .slice none 0 0, .slice none 0 0] 27)) w' →
      Box w' w.heap.size (Raw.cells ⟨term, stamp, next, ⟨a1, n1, c1⟩, ⟨a2, n2, c2⟩, ⟨a3, n3, c3⟩, ⟨a4, n4, c4⟩⟩) ∧ Box w' (w.heap.size + 1) (Raw.cells ⟨0, 0, 0, ⟨none, 0, 0⟩, ⟨none, 0, 0⟩, ⟨none, 0, 0⟩, ⟨none, 0, 0⟩⟩) ∧ w.heap.size + 2 ≤ w'.heap.size) :=
    fun w' hb => ⟨Box.of_alloc (mid_alloc' hb), Box.of_alloc1 hb, by have := hb.size; simp at this; omega⟩
  clear h hl1 hl2 hl3 hl4
  cases hok : stOk s with
  | false =>
    have HOK := Lib.hid hok
    have HO : Hid (res = s) := by show _ = _; rw [HE.out, if_neg (by rw [hok]; simp)]
    clear hok HE HCP HOU
    go_enter Try.func21, Try.ntmps21
    go_wp2_with (first
      | (refine wpList_load_as laySt rfl (.tmp 2) rfl w.heap.size 0 rfl ⟨term, stamp, next, ⟨a1, n1, c1⟩, ⟨a2, n2, c2⟩, ⟨a3, n3, c3⟩, ⟨a4, n4, c4⟩⟩ (.agg #[.int .i64 term, .int .i64 stamp, .int .i64 next, .slice a1 n1 c1, .slice a2 n2 c2, .slice a3 n3 c3, .slice a4 n4 c4]) rfl (HBX.out _ (by repeat' (first | (with_reducible exact Below.refl _ _) | (with_reducible assumption) | (with_reducible refine Below.drew ?_) | (with_reducible refine Below.more ?_ _) | (with_reducible refine Below.put ?_ ?_ _) | (with_reducible refine Below.next ?_ (by with_reducible assumption)) | (with_reducible exact Nat.le_refl _) | (with_reducible refine Below.size' ?_) | omega))).1.range ?_)
      | (go_at_call 16; ((with_reducible refine (HCK.out _ (by repeat' (first | (with_reducible exact Below.refl _ _) | (with_reducible assumption) | (with_reducible refine Below.drew ?_) | (with_reducible refine Below.more ?_ _) | (with_reducible refine Below.put ?_ ?_ _) | (with_reducible refine Below.next ?_ (by with_reducible assumption)) | (with_reducible exact Nat.le_refl _) | (with_reducible refine Below.size' ?_) | omega))).mono ?_); rw [HOK.out]; rintro e w3 ⟨rfl, hb3⟩; have HX3 := Lib.hid (HBX.out w3 (by repeat' (first | (with_reducible exact Below.refl _ _) | (with_reducible assumption) | (with_reducible refine Below.drew ?_) | (with_reducible refine Below.more ?_ _) | (with_reducible refine Below.put ?_ ?_ _) | (with_reducible refine Below.next ?_ (by with_reducible assumption)) | (with_reducible exact Nat.le_refl _) | (with_reducible refine Below.size' ?_) | omega)))))
      | (refine wpList_store_whole laySt rfl (.tmp 4) (.tmp 11) rfl (w.heap.size + 1) ⟨term, stamp, next, ⟨a1, n1, c1⟩, ⟨a2, n2, c2⟩, ⟨a3, n3, c3⟩, ⟨a4, n4, c4⟩⟩ _ rfl rfl HX3.out.2.1 rfl ?_; intro w4 hb4 hw4; have HX4 := Lib.hid hb4; have HW4 := Lib.hid hw4; clear hb4 hw4))
    have b3 : Below w.heap.size w w3 := (by repeat' (first | (with_reducible exact Below.refl _ _) | (with_reducible assumption) | (with_reducible refine Below.drew ?_) | (with_reducible refine Below.more ?_ _) | (with_reducible refine Below.put ?_ ?_ _) | (with_reducible refine Below.next ?_ (by with_reducible assumption)) | (with_reducible exact Nat.le_refl _) | (with_reducible refine Below.size' ?_) | omega))
    have b4 : Below w.heap.size w w4 := b3.trans (HW4.out.below _ (by omega))
    obtain ⟨k0, k1, k2, k3, k4, k5, k6⟩ := cellsSt0 HX4.out.range
    refine bodyPost_ret (v := .agg #[.int .i64 term, .int .i64 stamp, .int .i64 next, .slice a1 n1 c1, .slice a2 n2 c2, .slice a3 n3 c3, .slice a4 n4 c4]) (by simp [results, Try.results21, go_sem, k0, k1, k2, k3, k4, k5, k6]) rfl ?_
    refine ⟨⟨term, stamp, next, ⟨a1, n1, c1⟩, ⟨a2, n2, c2⟩, ⟨a3, n3, c3⟩, ⟨a4, n4, c4⟩⟩, rfl, ?_, b4⟩
    rw [HO.out]
    exact (HS.out.below b4).mono (Nat.zero_le _)
  | true =>
    have HOK := Lib.hid hok
    have HO : Hid (res = sweptS { s with tens := s.tens.map (credT s.leas ticks) }) := by show _ = _; rw [HE.out, if_pos hok]
    have HFIT := Lib.hid (stOk_ten hok).2
    have HTEN := Lib.hid (fun x hx => ten_range (x := x) (stOk_ten hok).1 hx)
    have HSW := Lib.hid (fun q B' w' (h' : StAt w' B' q { s with tens := s.tens.map (credT s.leas ticks) }) (hB' : B' ≤ w'.heap.size) => refswept_st { s with tens := s.tens.map (credT s.leas ticks) } q B' w' h' HFIT.out (by simp; exact HL.out.1) HL.out.2.1 hB')
    clear hok HE
    go_enter Try.func21, Try.ntmps21
    go_wp2_with (first
      | (refine wpList_load_as laySt rfl (.tmp 2) rfl w.heap.size 0 rfl ⟨term, stamp, next, ⟨a1, n1, c1⟩, ⟨a2, n2, c2⟩, ⟨a3, n3, c3⟩, ⟨a4, n4, c4⟩⟩ (.agg #[.int .i64 term, .int .i64 stamp, .int .i64 next, .slice a1 n1 c1, .slice a2 n2 c2, .slice a3 n3 c3, .slice a4 n4 c4]) rfl (by first | exact HX3.out.1.range | exact (HBX.out _ (by repeat' (first | (with_reducible exact Below.refl _ _) | (with_reducible assumption) | (with_reducible refine Below.drew ?_) | (with_reducible refine Below.more ?_ _) | (with_reducible refine Below.put ?_ ?_ _) | (with_reducible refine Below.next ?_ (by with_reducible assumption)) | (with_reducible exact Nat.le_refl _) | (with_reducible refine Below.size' ?_) | omega))).1.range) ?_)
      | (go_at_call 16; ((with_reducible refine (HCK.out _ (by repeat' (first | (with_reducible exact Below.refl _ _) | (with_reducible assumption) | (with_reducible refine Below.drew ?_) | (with_reducible refine Below.more ?_ _) | (with_reducible refine Below.put ?_ ?_ _) | (with_reducible refine Below.next ?_ (by with_reducible assumption)) | (with_reducible exact Nat.le_refl _) | (with_reducible refine Below.size' ?_) | omega))).mono ?_); rw [HOK.out]; rintro e w3 ⟨rfl, hb3⟩; have HX3 := Lib.hid (HBX.out w3 (by repeat' (first | (with_reducible exact Below.refl _ _) | (with_reducible assumption) | (with_reducible refine Below.drew ?_) | (with_reducible refine Below.more ?_ _) | (with_reducible refine Below.put ?_ ?_ _) | (with_reducible refine Below.next ?_ (by with_reducible assumption)) | (with_reducible exact Nat.le_refl _) | (with_reducible refine Below.size' ?_) | omega)))))
      | (go_at_call 37; ((with_reducible refine (HCP.out _ (by repeat' (first | (with_reducible exact Below.refl _ _) | (with_reducible assumption) | (with_reducible refine Below.drew ?_) | (with_reducible refine Below.more ?_ _) | (with_reducible refine Below.put ?_ ?_ _) | (with_reducible refine Below.next ?_ (by with_reducible assumption)) | (with_reducible exact Nat.le_refl _) | (with_reducible refine Below.size' ?_) | omega))).mono ?_); rintro e w4 ⟨⟨t4, s4, n4', ⟨x1, m1, y1⟩, ⟨x2, m2, y2⟩, ⟨x3, m3, y3⟩, ⟨x4, m4, y4⟩⟩, rfl, hst4, hb4⟩; have HST4 := Lib.hid hst4; have HX4 := Lib.hid (HBX.out w4 (by repeat' (first | (with_reducible exact Below.refl _ _) | (with_reducible assumption) | (with_reducible refine Below.drew ?_) | (with_reducible refine Below.more ?_ _) | (with_reducible refine Below.put ?_ ?_ _) | (with_reducible refine Below.next ?_ (by with_reducible assumption)) | (with_reducible exact Nat.le_refl _) | (with_reducible refine Below.size' ?_) | omega))); have q3 := HX3.out.2.2; have q4 := hb4.size; clear hst4))
      | (refine wpList_store_box laySt rfl (.tmp 5) (.tmp 13) rfl ⟨t4, s4, n4', ⟨x1, m1, y1⟩, ⟨x2, m2, y2⟩, ⟨x3, m3, y3⟩, ⟨x4, m4, y4⟩⟩ rfl rfl rfl ?_; intro w5 hw5 ht5 hb5 hs5; have HX5 : Hid (Box w5 w4.heap.size (Raw.cells ⟨t4, s4, n4', ⟨x1, m1, y1⟩, ⟨x2, m2, y2⟩, ⟨x3, m3, y3⟩, ⟨x4, m4, y4⟩⟩)) := ⟨hw5, ht5⟩; have HS5 := Lib.hid (HX4.out.1.below hb5 (by omega)); have HZ5 := Lib.hid (HX4.out.2.1.below hb5 (by omega)); have HST5 := Lib.hid (HST4.out.mid (Mid.below hb5 (Nat.le_refl _) : Mid w3.heap.size w4.heap.size w4 w5) (Nat.le_refl _) (Nat.le_refl _)); have hb45 : Below w.heap.size w w5 := Below.trans (show Below w.heap.size w w4 from (by repeat' (first | (with_reducible exact Below.refl _ _) | (with_reducible assumption) | (with_reducible refine Below.drew ?_) | (with_reducible refine Below.more ?_ _) | (with_reducible refine Below.put ?_ ?_ _) | (with_reducible refine Below.next ?_ (by with_reducible assumption)) | (with_reducible exact Nat.le_refl _) | (with_reducible refine Below.size' ?_) | omega))) (hb5.mono (by omega)); clear hw5 ht5))
    obtain ⟨g1, hg1, ha1, hm1, hd1, he1⟩ := HST5.out.ten.mine2 HST5.out.is.ten.len (by omega)
    obtain ⟨g1', _, ha1', _, _, _⟩ := HST4.out.ten.mine2 HST4.out.is.ten.len (by omega)
    have hgb : g1 ≠ w4.heap.size := by
      by_cases h : s.tens = []
      · have := he1 h; omega
      · have h1 := (ha1 h).1
        have h2 := (ha1' h).1
        rw [h1] at h2
        simp only [Option.some.injEq, Addr.mk.injEq] at h2
        have := (ha1' h).2
        omega
    have hm1n : s.tens.length = m1 := HST5.out.is.ten.len
    subst hm1n
    have HA1 := Lib.hid ha1
    have HM1 := Lib.hid hm1
    have HD1 := Lib.hid hd1
    have HA1' : Hid (True) := trivial
    clear ha1 hm1 hd1 he1 ha1'
    go_loopw [6] (fun i wr => ∃ k : Nat, k ≤ s.tens.length ∧ i = .int .i64 k ∧ Hid (s.tens ≠ [] → Mine layTen wr w3.heap.size g1 0 ((s.tens.take k).map (credT s.leas ticks) ++ s.tens.drop k)) ∧ Only g1 w5 wr) (fun i _ => s.tens.length - (intOf i).toNat)
    case atStart => exact ⟨0, by omega, rfl, fun h => by simpa using HM1.out h, Only.refl _ _⟩
    case round =>
      obtain ⟨k, hk, rfl, hmr, hor⟩ := hrel
      have qr := hor.size
      have HXR := Lib.hid (HX5.out.block (hor.block w4.heap.size (by omega) (Ne.symm hgb)))
      have HSR := Lib.hid (HS5.out.block (hor.block w.heap.size (by omega) (by omega)))
      have HZR := Lib.hid (HZ5.out.block (hor.block (w.heap.size + 1) (by omega) (by omega)))
      have hl9 := HL.out.1
      have k3 := HXR.out.cell (j := 3) rfl
      have HBR := Lib.hid (hb45.trans (hor.below (B := w.heap.size) (by omega) (by omega)))
      by_cases hlt : k < s.tens.length
      · obtain ⟨hlen, hat, hset⟩ := credT_at (ls := s.leas) (ticks := ticks) hlt
        have hne : s.tens ≠ [] := by intro h; rw [h] at hlt; simp at hlt
        obtain ⟨hx1, hg1s⟩ := HA1.out hne
        subst hx1
        have hmine := hmr.out hne
        generalize hus : (s.tens.take k).map (credT s.leas ticks) ++ s.tens.drop k = us at hlen hat hset hmine
        have hku : k < us.length := by omega
        have hxk : us[k] = s.tens[k] := by rw [List.getElem?_eq_getElem hku] at hat; simpa using hat
        have hrg := hmine.range hku
        rw [hxk, Nat.zero_add] at hrg
        have HRG := Lib.hid hrg
        have HMN := Lib.hid hmine
        have HT := Lib.hid (HTEN.out s.tens[k] (List.getElem_mem hlt))
        have HXK := Lib.hid hxk
        have HSET := Lib.hid hset
        clear hmine hrg hxk hset hus hat hmr
        generalize s.tens[k] = x at HRG HT HXK HSET
        obtain ⟨id, rate, burst, bucket, gone⟩ := x
        have hgr : g1 < wr.heap.size := by omega
        cases gone with
        | true =>
          go_wp2_with (first
            | (refine wpList_load_lay layTen rfl (.tmp 24) rfl g1 (k * 5) rfl ⟨id, rate, burst, bucket, true⟩ HRG.out ?_)
            | (refine wpList_store_box layTen rfl (.tmp 7) (.tmp 25) rfl ⟨id, rate, burst, bucket, true⟩ rfl rfl rfl ?_; intro w7 hw7 _ hb7 hs7; obtain ⟨p0, p1, p2, p3, p4⟩ := cellsTen0 hw7; clear hw7))
          go_roundw
          case rel =>
            refine ⟨k + 1, by omega, by go_num, fun _ => ?_, hor.next hb7⟩
            rw [← HSET.out, show credT s.leas ticks ⟨id, rate, burst, bucket, true⟩ = us[k] from by rw [HXK.out]; rfl, List.set_getElem_self]
            exact HMN.out.block (hb7.block g1 hgr)
          case measure => simp [intOf]; omega
        | false =>
          have HZC : Hid (layTen.cells ⟨id, rate, burst, creditI bucket rate burst (outL s.leas id) ticks, false⟩ = (layTen.cells us[k]).set 3 (.int .i64 (creditI bucket rate burst (outL s.leas id) ticks))) := by show _ = _; rw [HXK.out]; rfl
          have hcl : k * 5 + 3 < (us.flatMap layTen.cells).length := by rw [layTen.length]; show _ < us.length * 5; omega
          have HCL := Lib.hid hcl
          have HCE : Hid ((us.flatMap layTen.cells)[k * 5 + 3]? = some (us.flatMap layTen.cells)[k * 5 + 3]) := List.getElem?_eq_getElem hcl
          clear hcl
          obtain ⟨_, ⟨t1, t2⟩, _, ⟨t3, t4'⟩⟩ := HT.out
          simp only at t1 t2 t3 t4'
          have HRC := Lib.hid (fun o w' => refcredit_any bucket rate burst o ticks w' t3 t4' t1 t2)
          have HOI := Lib.hid (HOU.out HFIT.out id)
          go_wp2_with (first
            | (refine wpList_load_lay layTen rfl (.tmp 24) rfl g1 (k * 5) rfl ⟨id, rate, burst, bucket, false⟩ HRG.out ?_)
            | (refine wpList_store_box layTen rfl (.tmp 7) (.tmp 25) rfl ⟨id, rate, burst, bucket, false⟩ rfl rfl rfl ?_; intro w7 hw7 _ hb7 hs7; obtain ⟨p0, p1, p2, p3, p4⟩ := cellsTen0 hw7; have HB7 := Lib.hid hb7; have HX7 := Lib.hid (HXR.out.below hb7 (by omega)); have HS7 := Lib.hid (HSR.out.below hb7 (by omega)); clear hw7 k3))
          have HKP : Hid (∀ w', Only g1 w7 w' → (w'.cell? ⟨w4.heap.size, 3, none⟩ = some (.slice (some ⟨g1, 0, none⟩) s.tens.length y1) ∧ (w'.cell? ⟨wr.heap.size, 0, none⟩ = some (.int .i64 id) ∧ w'.cell? ⟨wr.heap.size, 1, none⟩ = some (.int .i64 rate) ∧ w'.cell? ⟨wr.heap.size, 2, none⟩ = some (.int .i64 burst) ∧ w'.cell? ⟨wr.heap.size, 3, none⟩ = some (.int .i64 bucket)) ∧ (w'.cell? ⟨w.heap.size, 0, none⟩ = some (.int .i64 term) ∧ w'.cell? ⟨w.heap.size, 1, none⟩ = some (.int .i64 stamp) ∧ w'.cell? ⟨w.heap.size, 2, none⟩ = some (.int .i64 next) ∧ w'.cell? ⟨w.heap.size, 3, none⟩ = some (.slice a1 n1 c1) ∧ w'.cell? ⟨w.heap.size, 4, none⟩ = some (.slice a2 n2 c2) ∧ w'.cell? ⟨w.heap.size, 5, none⟩ = some (.slice a3 n3 c3) ∧ w'.cell? ⟨w.heap.size, 6, none⟩ = some (.slice a4 n4 c4)))) := fun w' ho => ⟨(HX7.out.block (ho.block _ (by omega) (by omega))).cell (j := 3) rfl, ⟨(ho.cellOf (by show wr.heap.size < _; omega) (by show wr.heap.size ≠ _; omega)).trans p0, (ho.cellOf (by show wr.heap.size < _; omega) (by show wr.heap.size ≠ _; omega)).trans p1, (ho.cellOf (by show wr.heap.size < _; omega) (by show wr.heap.size ≠ _; omega)).trans p2, (ho.cellOf (by show wr.heap.size < _; omega) (by show wr.heap.size ≠ _; omega)).trans p3⟩, cellsSt0 (HS7.out.block (ho.block _ (by omega) (by omega))).range⟩
          have HQ7 := Lib.hid (HBR.out.trans (HB7.out.mono (by omega)))
          clear p0 p1 p2 p3 p4
          go_region_held3 (fun w' => (w'.cell? ⟨w4.heap.size, 3, none⟩ = some (.slice (some ⟨g1, 0, none⟩) s.tens.length y1) ∧ (w'.cell? ⟨wr.heap.size, 0, none⟩ = some (.int .i64 id) ∧ w'.cell? ⟨wr.heap.size, 1, none⟩ = some (.int .i64 rate) ∧ w'.cell? ⟨wr.heap.size, 2, none⟩ = some (.int .i64 burst) ∧ w'.cell? ⟨wr.heap.size, 3, none⟩ = some (.int .i64 bucket)) ∧ (w'.cell? ⟨w.heap.size, 0, none⟩ = some (.int .i64 term) ∧ w'.cell? ⟨w.heap.size, 1, none⟩ = some (.int .i64 stamp) ∧ w'.cell? ⟨w.heap.size, 2, none⟩ = some (.int .i64 next) ∧ w'.cell? ⟨w.heap.size, 3, none⟩ = some (.slice a1 n1 c1) ∧ w'.cell? ⟨w.heap.size, 4, none⟩ = some (.slice a2 n2 c2) ∧ w'.cell? ⟨w.heap.size, 5, none⟩ = some (.slice a3 n3 c3) ∧ w'.cell? ⟨w.heap.size, 6, none⟩ = some (.slice a4 n4 c4)))) ((refine HKP.out _ ?_; first | exact (Only.refl g1 w7).next ((Below.refl _ _).drew) | exact HO78.out | exact HO79.out)) (first
            | (go_at_call 18; ((with_reducible refine (HOI.out _ (Below.drew HQ7.out)).mono ?_); rintro e w8 ⟨rfl, hb8⟩; have hb78 : Below w7.heap.size w7 w8 := ⟨hb8.os, hb8.tape, hb8.output, hb8.size, hb8.block⟩; have HM8 := Lib.hid ((HMN.out.block (hb7.block g1 hgr)).block (hb78.block g1 (by omega))); have HO78 := Lib.hid ((Only.refl g1 w7).next hb78); have q8 := hb78.size; have HW8 := Lib.hid (wrote_setCell w8 g1 (k * 5 + 3) (.int .i64 (creditI bucket rate burst (outL s.leas id) ticks))); have HO79 := Lib.hid (HO78.out.wrote HW8.out); have hcc := HM8.out.box.cell (j := k * 5 + 3) (HCE.out); have hzz := HM8.out.box.froz (j := k * 5 + 3) HCL.out))
            | (go_at_call 51; ((with_reducible refine (HRC.out _ _).mono ?_); rintro e w8b ⟨rfl, rfl⟩)))
          obtain ⟨w9, hw9⟩ : ∃ x, x = w8.setCell ⟨g1, k * 5 + 3, none⟩ (.int .i64 (creditI bucket rate burst (outL s.leas id) ticks)) := ⟨_, rfl⟩
          rw [← hw9]
          have HM9 := Lib.hid (show Mine layTen w9 w3.heap.size g1 0 (us.set k ⟨id, rate, burst, creditI bucket rate burst (outL s.leas id) ticks, false⟩) by rw [hw9]; exact HM8.out.setOne hku (r := 3) (show 3 < 5 by decide) HZC.out)
          have HO9 := Lib.hid (show Only g1 w5 w9 by rw [hw9]; exact ((hor.next hb7).trans HO79.out))
          clear hw9 hcc hzz
          go_wp2
          refine ⟨⟨k + 1, by omega, by go_num, fun _ => ?_, HO9.out⟩, by simp [intOf]; omega⟩
          rw [← HSET.out]
          exact HM9.out
      · obtain rfl : k = s.tens.length := by omega
        have hfin : s.tens ≠ [] → Mine layTen wr w3.heap.size g1 0 (s.tens.map (credT s.leas ticks)) := fun h => by have := hmr.out h; rw [List.take_length, List.drop_length, List.append_nil] at this; exact this
        have HFIN := Lib.hid hfin
        have HOR := Lib.hid hor
        have SR : StAt wr w3.heap.size ⟨t4, s4, n4', ⟨x1, s.tens.length, y1⟩, ⟨x2, m2, y2⟩, ⟨x3, m3, y3⟩, ⟨x4, m4, y4⟩⟩ { s with tens := s.tens.map (credT s.leas ticks) } := by
          have i5 := HST5.out
          have l6 : SliAt layTen wr w3.heap.size ⟨x1, s.tens.length, y1⟩ (s.tens.map (credT s.leas ticks)) := by
            refine ⟨by simp, i5.is.ten.le, i5.is.ten.nil, i5.is.ten.near, ?_⟩
            by_cases h0 : s.tens = []
            · rw [h0]; exact .inl rfl
            · have h1 := (HA1.out h0).1
              have h2 := (HFIN.out h0).row
              rw [← h1] at h2; exact h2
          exact ⟨i5.is.term, i5.is.stamp, i5.is.next, l6, i5.is.lea.apart HOR.out i5.tl HD1.out, i5.is.ses.apart HOR.out i5.ts HD1.out, i5.is.dsk.apart HOR.out i5.td HD1.out⟩
        have HSRR := Lib.hid SR
        clear hfin hor hmr SR
        go_wp2_with (first
          | (refine wpList_load_as laySt rfl (.tmp 5) rfl w4.heap.size 0 rfl ⟨t4, s4, n4', ⟨x1, s.tens.length, y1⟩, ⟨x2, m2, y2⟩, ⟨x3, m3, y3⟩, ⟨x4, m4, y4⟩⟩ (.agg #[.int .i64 t4, .int .i64 s4, .int .i64 n4', .slice x1 s.tens.length y1, .slice x2 m2 y2, .slice x3 m3 y3, .slice x4 m4 y4]) rfl HXR.out.range ?_)
          | (go_at_call 39; have hsw := HSW.out _ _ wr HSRR.out (by omega); ((with_reducible refine hsw.mono ?_); clear hsw; rintro e w6 ⟨⟨t5, s5, n5', ⟨z1, o1, v1⟩, ⟨z2, o2, v2⟩, ⟨z3, o3, v3⟩, ⟨z4, o4, v4⟩⟩, rfl, hst6, hb6⟩; have HST6 := Lib.hid hst6; have HZ6 := Lib.hid (HZR.out.below hb6 (by omega)); have q6 := hb6.size; clear hst6))
          | (refine wpList_store_whole laySt rfl (.tmp 4) (.tmp 47) rfl (w.heap.size + 1) ⟨t5, s5, n5', ⟨z1, o1, v1⟩, ⟨z2, o2, v2⟩, ⟨z3, o3, v3⟩, ⟨z4, o4, v4⟩⟩ _ rfl rfl HZ6.out rfl ?_; intro w8 hbx8 hw8; have HX8 := Lib.hid hbx8; have HW8 := Lib.hid hw8; clear hbx8 hw8))
        have b8 : Below w.heap.size w w8 := (HBR.out.trans (hb6.mono (by omega))).trans (HW8.out.below _ (by omega))
        obtain ⟨k0, k1, k2, k3, k4, k5, k6⟩ := cellsSt0 HX8.out.range
        refine bodyPost_ret (v := .agg #[.int .i64 t5, .int .i64 s5, .int .i64 n5', .slice z1 o1 v1, .slice z2 o2 v2, .slice z3 o3 v3, .slice z4 o4 v4]) (by simp [results, Try.results21, go_sem, k0, k1, k2, k3, k4, k5, k6]) rfl ?_
        refine ⟨⟨t5, s5, n5', ⟨z1, o1, v1⟩, ⟨z2, o2, v2⟩, ⟨z3, o3, v3⟩, ⟨z4, o4, v4⟩⟩, rfl, ?_, b8⟩
        rw [HO.out]
        exact (HST6.out.mid ((Mid.refl w3.heap.size w6.heap.size w6).wrote HW8.out (.inl (by omega))) (Nat.le_refl _) (Nat.le_refl _)).mono (Nat.zero_le _)
end Go.Proofs.Ytoofmofaimdhpaa
