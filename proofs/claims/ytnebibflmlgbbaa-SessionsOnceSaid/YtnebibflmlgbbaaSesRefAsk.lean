import Derived.Test.YtnebibflmlgbbaaSesAsk2
namespace Go.Proofs.Ytnebibflmlgbbaa
open Go.ChangeShapes Go.WideShapes Go.ChangeAt Go.RowKit

theorem lastS_ok {l : List Session} {id : Int} (h : sessOk l = true) : lastS l id = (findS l id).1.number := by unfold lastS; rw [if_pos h]
set_option maxHeartbeats 4000000 in
theorem refask_ses (l : List Session) (a : Option Addr) (n c : Nat) (id num : Int) (w : World) (hn : l.length = n) (hl : n ≤ 1000000) (hr : LRow laySes w a l) :
    Calls Try.prog 9 #[.slice a n c, .int .i64 id, .int .i64 num] w (RetAsk w (askS l id num)) := by
  have HA : Hid (askS l id num = if mayS l id num = false then (Ans.err 0, false, 2) else if num < (findS l id).1.number then (Ans.err 0, false, 150) else if num = (findS l id).1.number then ((findS l id).1.answer, false, 0) else (Ans.err 0, true, 0)) := rfl
  generalize askS l id num = res at HA ⊢
  have hm := le_maxLen (Nat.le_trans hl (by decide) : n ≤ 1048576)
  have HBT := Lib.hid (fun w' (q : Below (World.alloc w (.cells #[.int .i64 0, .int .i64 0, .int .i64 0, .int .i64 0, .int .i64 0] 26)).heap.size (World.alloc w (.cells #[.int .i64 0, .int .i64 0, .int .i64 0, .int .i64 0, .int .i64 0] 26)) w') => And.intro (box_there q) (Below.boxed q))
  cases hs : mayS l id num with
  | false =>
    have HS := Lib.hid hs
    rw [hs] at HA
    clear hs
    go_enter Try.func9, Try.ntmps9
    go_wp2_with (first
      | (go_at_call 19; ((with_reducible refine (refmay_ses l _ _ _ _ _ _ hn hm (LRow.below hr (by repeat' (first | (with_reducible exact Below.refl _ _) | (with_reducible assumption) | (with_reducible refine Below.drew ?_) | (with_reducible refine Below.more ?_ _) | (with_reducible refine Below.put ?_ ?_ _) | (with_reducible refine Below.next ?_ (by with_reducible assumption)) | (with_reducible exact Nat.le_refl _) | (with_reducible refine Below.size' ?_) | omega)))).mono ?_); rw [HS.out]; rintro e w2 ⟨rfl, hb⟩; have HT := Lib.hid (HBT.out w2 (by repeat' (first | (with_reducible exact Below.refl _ _) | (with_reducible assumption) | (with_reducible refine Below.drew ?_) | (with_reducible refine Below.more ?_ _) | (with_reducible refine Below.put ?_ ?_ _) | (with_reducible refine Below.next ?_ (by with_reducible assumption)) | (with_reducible exact Nat.le_refl _) | (with_reducible refine Below.size' ?_) | omega))).1))
      | (refine wpList_store_there layAns rfl (.tmp 6) (.tmp 15) rfl w.heap.size 0 (Ans.err 0) rfl rfl HT.out ?_; intro w5 hr5 _ hb5 _; have HR5 := Lib.hid hr5; have hb6 := hb5 w.heap.size (Nat.le_refl _); clear hr5 hb5))
    obtain ⟨c0, c1, c2, c3, c4⟩ := cellsAns HR5.out
    simp only [Nat.zero_add] at c1 c2 c3 c4
    refine bodyPost_ret (v := .tuple #[(Ans.err 0).agg, .bool false, .int .i64 2]) (by simp [results, Try.results9, go_sem, c0, c1, c2, c3, c4]) rfl ?_
    have q : Below w.heap.size w w2 := (by repeat' (first | (with_reducible exact Below.refl _ _) | (with_reducible assumption) | (with_reducible refine Below.drew ?_) | (with_reducible refine Below.more ?_ _) | (with_reducible refine Below.put ?_ ?_ _) | (with_reducible refine Below.next ?_ (by with_reducible assumption)) | (with_reducible exact Nat.le_refl _) | (with_reducible refine Below.size' ?_) | omega))
    exact ⟨by rw [HA.out]; rfl, q.trans hb6⟩
  | true =>
    have HS := Lib.hid hs
    obtain ⟨hs1, hi1, hi2, hn1⟩ := mayS_ok hs
    rw [hs, if_neg (by simp)] at HA
    have HLA := Lib.hid (lastS_ok (id := id) hs1)
    have HW := Lib.hid (findS_ways l id)
    generalize lastS l id = la at HLA
    by_cases h1 : num < la
    · have HO : Hid (res = (Ans.err 0, false, 150)) := by show _ = _; rw [HA.out, ← HLA.out, if_pos h1]
      have HL1 : Hid (lastS l id = la) := by show _ = _; rw [HLA.out]; exact lastS_ok hs1
      clear hs hs1 HA HLA HW
      go_enter Try.func9, Try.ntmps9
      go_wp2_with (first
        | (go_at_call 19; ((with_reducible refine (refmay_ses l _ _ _ _ _ _ hn hm (LRow.below hr (by repeat' (first | (with_reducible exact Below.refl _ _) | (with_reducible assumption) | (with_reducible refine Below.drew ?_) | (with_reducible refine Below.more ?_ _) | (with_reducible refine Below.put ?_ ?_ _) | (with_reducible refine Below.next ?_ (by with_reducible assumption)) | (with_reducible exact Nat.le_refl _) | (with_reducible refine Below.size' ?_) | omega)))).mono ?_); rw [HS.out]; rintro e w2 ⟨rfl, hb⟩))
        | (go_at_call 13; ((with_reducible refine (reflast_ses l _ _ _ _ _ hn hl (LRow.below hr (by repeat' (first | (with_reducible exact Below.refl _ _) | (with_reducible assumption) | (with_reducible refine Below.drew ?_) | (with_reducible refine Below.more ?_ _) | (with_reducible refine Below.put ?_ ?_ _) | (with_reducible refine Below.next ?_ (by with_reducible assumption)) | (with_reducible exact Nat.le_refl _) | (with_reducible refine Below.size' ?_) | omega)))).mono ?_); rw [HL1.out]; rintro e w3 ⟨rfl, hb3⟩; have HT := Lib.hid (HBT.out w3 (by repeat' (first | (with_reducible exact Below.refl _ _) | (with_reducible assumption) | (with_reducible refine Below.drew ?_) | (with_reducible refine Below.more ?_ _) | (with_reducible refine Below.put ?_ ?_ _) | (with_reducible refine Below.next ?_ (by with_reducible assumption)) | (with_reducible exact Nat.le_refl _) | (with_reducible refine Below.size' ?_) | omega))).1))
        | (refine wpList_store_there layAns rfl (.tmp 6) (.tmp 22) rfl w.heap.size 0 (Ans.err 0) rfl rfl HT.out ?_; intro w5 hr5 _ hb5 _; have HR5 := Lib.hid hr5; have hb6 := hb5 w.heap.size (Nat.le_refl _); clear hr5 hb5))
      obtain ⟨c0, c1, c2, c3, c4⟩ := cellsAns HR5.out
      simp only [Nat.zero_add] at c1 c2 c3 c4
      refine bodyPost_ret (v := .tuple #[(Ans.err 0).agg, .bool false, .int .i64 150]) (by simp [results, Try.results9, go_sem, c0, c1, c2, c3, c4]) rfl ?_
      have q : Below w.heap.size w w3 := (by repeat' (first | (with_reducible exact Below.refl _ _) | (with_reducible assumption) | (with_reducible refine Below.drew ?_) | (with_reducible refine Below.more ?_ _) | (with_reducible refine Below.put ?_ ?_ _) | (with_reducible refine Below.next ?_ (by with_reducible assumption)) | (with_reducible exact Nat.le_refl _) | (with_reducible refine Below.size' ?_) | omega))
      exact ⟨by rw [HO.out], q.trans hb6⟩
    have HL1 : Hid (lastS l id = la) := by show _ = _; rw [HLA.out]; exact lastS_ok hs1
    by_cases h2 : num = la
    · obtain ⟨k, hk, hk1, hk2⟩ : ∃ k, ∃ hk : k < l.length, idxL (fun s => s.client == id) l = k ∧ findS l id = (l[k], true) := by
        rcases HW.out with ⟨_, h⟩ | h
        · have := HLA.out; rw [h] at this; simp only [zeroS] at this; omega
        · exact h
      have HO : Hid (res = (l[k].answer, false, 0)) := by show _ = _; rw [HA.out, ← HLA.out, if_neg h1, if_pos h2, hk2]
      obtain ⟨b, o, rfl, hcs⟩ := atSes hr hk
      have HC := Lib.hid hcs
      have HK := Lib.hid hk1
      generalize l[k] = y at HC HO
      subst h2
      subst hn
      clear hs hs1 HA HLA HW hcs hk1 hk2
      go_enter Try.func9, Try.ntmps9
      go_wp2_with (first
        | (go_at_call 19; ((with_reducible refine (refmay_ses l _ _ _ _ _ _ rfl hm (LRow.below hr (by repeat' (first | (with_reducible exact Below.refl _ _) | (with_reducible assumption) | (with_reducible refine Below.drew ?_) | (with_reducible refine Below.more ?_ _) | (with_reducible refine Below.put ?_ ?_ _) | (with_reducible refine Below.next ?_ (by with_reducible assumption)) | (with_reducible exact Nat.le_refl _) | (with_reducible refine Below.size' ?_) | omega)))).mono ?_); rw [HS.out]; rintro e w2 ⟨rfl, hb⟩))
        | (go_at_call 13; ((with_reducible refine (reflast_ses l _ _ _ _ _ rfl hl (LRow.below hr (by repeat' (first | (with_reducible exact Below.refl _ _) | (with_reducible assumption) | (with_reducible refine Below.drew ?_) | (with_reducible refine Below.more ?_ _) | (with_reducible refine Below.put ?_ ?_ _) | (with_reducible refine Below.next ?_ (by with_reducible assumption)) | (with_reducible exact Nat.le_refl _) | (with_reducible refine Below.size' ?_) | omega)))).mono ?_); rw [HL1.out]; rintro e w3 ⟨rfl, hb3⟩))
        | (go_at_call 20; ((with_reducible refine (reffind_ses l _ _ _ _ _ rfl hm (LRow.below hr (by repeat' (first | (with_reducible exact Below.refl _ _) | (with_reducible assumption) | (with_reducible refine Below.drew ?_) | (with_reducible refine Below.more ?_ _) | (with_reducible refine Below.put ?_ ?_ _) | (with_reducible refine Below.next ?_ (by with_reducible assumption)) | (with_reducible exact Nat.le_refl _) | (with_reducible refine Below.size' ?_) | omega)))).mono ?_); rw [HK.out]; rintro e w4 ⟨rfl, hb4⟩; have HT := Lib.hid (HBT.out w4 (by repeat' (first | (with_reducible exact Below.refl _ _) | (with_reducible assumption) | (with_reducible refine Below.drew ?_) | (with_reducible refine Below.more ?_ _) | (with_reducible refine Below.put ?_ ?_ _) | (with_reducible refine Below.next ?_ (by with_reducible assumption)) | (with_reducible exact Nat.le_refl _) | (with_reducible refine Below.size' ?_) | omega))).1; obtain ⟨_, _, y2, y3, y4, y5, y6⟩ := HC.out w4 (by repeat' (first | (with_reducible exact Below.refl _ _) | (with_reducible assumption) | (with_reducible refine Below.drew ?_) | (with_reducible refine Below.more ?_ _) | (with_reducible refine Below.put ?_ ?_ _) | (with_reducible refine Below.next ?_ (by with_reducible assumption)) | (with_reducible exact Nat.le_refl _) | (with_reducible refine Below.size' ?_) | omega))))
        | (refine wpList_store_there layAns rfl (.tmp 6) (.tmp 32) rfl w.heap.size 0 y.answer rfl rfl HT.out ?_; intro w5 hr5 _ hb5 _; have HR5 := Lib.hid hr5; have hb6 := hb5 w.heap.size (Nat.le_refl _); clear hr5 hb5))
      obtain ⟨c0, c1, c2, c3, c4⟩ := cellsAns HR5.out
      simp only [Nat.zero_add] at c1 c2 c3 c4
      refine bodyPost_ret (v := .tuple #[y.answer.agg, .bool false, .int .i64 0]) (by simp [results, Try.results9, go_sem, c0, c1, c2, c3, c4]) rfl ?_
      have q : Below w.heap.size w w4 := (by repeat' (first | (with_reducible exact Below.refl _ _) | (with_reducible assumption) | (with_reducible refine Below.drew ?_) | (with_reducible refine Below.more ?_ _) | (with_reducible refine Below.put ?_ ?_ _) | (with_reducible refine Below.next ?_ (by with_reducible assumption)) | (with_reducible exact Nat.le_refl _) | (with_reducible refine Below.size' ?_) | omega))
      exact ⟨by rw [HO.out], q.trans hb6⟩
    · have HO : Hid (res = (Ans.err 0, true, 0)) := by show _ = _; rw [HA.out, ← HLA.out, if_neg h1, if_neg h2]
      have g2 : (num == la) = false := beq_eq_false_iff_ne.2 h2
      clear hs hs1 HA HLA HW h2
      go_enter Try.func9, Try.ntmps9
      go_wp2_with (first
        | (go_at_call 19; ((with_reducible refine (refmay_ses l _ _ _ _ _ _ hn hm (LRow.below hr (by repeat' (first | (with_reducible exact Below.refl _ _) | (with_reducible assumption) | (with_reducible refine Below.drew ?_) | (with_reducible refine Below.more ?_ _) | (with_reducible refine Below.put ?_ ?_ _) | (with_reducible refine Below.next ?_ (by with_reducible assumption)) | (with_reducible exact Nat.le_refl _) | (with_reducible refine Below.size' ?_) | omega)))).mono ?_); rw [HS.out]; rintro e w2 ⟨rfl, hb⟩))
        | (go_at_call 13; ((with_reducible refine (reflast_ses l _ _ _ _ _ hn hl (LRow.below hr (by repeat' (first | (with_reducible exact Below.refl _ _) | (with_reducible assumption) | (with_reducible refine Below.drew ?_) | (with_reducible refine Below.more ?_ _) | (with_reducible refine Below.put ?_ ?_ _) | (with_reducible refine Below.next ?_ (by with_reducible assumption)) | (with_reducible exact Nat.le_refl _) | (with_reducible refine Below.size' ?_) | omega)))).mono ?_); rw [HL1.out]; rintro e w3 ⟨rfl, hb3⟩; have HT := Lib.hid (HBT.out w3 (by repeat' (first | (with_reducible exact Below.refl _ _) | (with_reducible assumption) | (with_reducible refine Below.drew ?_) | (with_reducible refine Below.more ?_ _) | (with_reducible refine Below.put ?_ ?_ _) | (with_reducible refine Below.next ?_ (by with_reducible assumption)) | (with_reducible exact Nat.le_refl _) | (with_reducible refine Below.size' ?_) | omega))).1))
        | (refine wpList_store_there layAns rfl (.tmp 6) (.tmp 33) rfl w.heap.size 0 (Ans.err 0) rfl rfl HT.out ?_; intro w5 hr5 _ hb5 _; have HR5 := Lib.hid hr5; have hb6 := hb5 w.heap.size (Nat.le_refl _); clear hr5 hb5))
      obtain ⟨c0, c1, c2, c3, c4⟩ := cellsAns HR5.out
      simp only [Nat.zero_add] at c1 c2 c3 c4
      refine bodyPost_ret (v := .tuple #[(Ans.err 0).agg, .bool true, .int .i64 0]) (by simp [results, Try.results9, go_sem, c0, c1, c2, c3, c4]) rfl ?_
      have q : Below w.heap.size w w3 := (by repeat' (first | (with_reducible exact Below.refl _ _) | (with_reducible assumption) | (with_reducible refine Below.drew ?_) | (with_reducible refine Below.more ?_ _) | (with_reducible refine Below.put ?_ ?_ _) | (with_reducible refine Below.next ?_ (by with_reducible assumption)) | (with_reducible exact Nat.le_refl _) | (with_reducible refine Below.size' ?_) | omega))
      exact ⟨by rw [HO.out], q.trans hb6⟩
end Go.Proofs.Ytnebibflmlgbbaa
