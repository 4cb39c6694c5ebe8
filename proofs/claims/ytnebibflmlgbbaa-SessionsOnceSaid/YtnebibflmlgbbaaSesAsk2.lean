import Derived.Test.YtnebibflmlgbbaaSesAsk
namespace Go.Proofs.Ytnebibflmlgbbaa
open Go.ChangeShapes Go.WideShapes Go.ChangeAt Go.RowKit

theorem findS_ways (l : List Session) (id : Int) : (idxL (fun s => s.client == id) l = -1 ∧ findS l id = (zeroS, false)) ∨ ∃ k, ∃ hk : k < l.length, idxL (fun s => s.client == id) l = k ∧ findS l id = (l[k], true) := by
  unfold findS findK
  rcases idxL_find (fun s : Session => s.client == id) l with ⟨h1, h2⟩ | ⟨k, hk, h1, h2⟩
  · exact .inl ⟨h1, by rw [h2]⟩
  · exact .inr ⟨k, hk, h1, by rw [h2]⟩
set_option maxHeartbeats 2000000 in
theorem reflast_ses (l : List Session) (a : Option Addr) (n c : Nat) (id : Int) (w : World) (hn : l.length = n) (hl : n ≤ 1000000) (hr : LRow laySes w a l) :
    Calls Try.prog 13 #[.slice a n c, .int .i64 id] w fun e w' => e = .returned (.int .i64 (lastS l id)) ∧ Below w.heap.size w w' := by
  subst hn
  have HL : Hid (lastS l id = if sessOk l = true then (findS l id).1.number else 0) := rfl
  generalize lastS l id = res at HL ⊢
  have hm := le_maxLen (Nat.le_trans hl (by decide) : l.length ≤ 1048576)
  rcases findS_ways l id with ⟨h1, h2⟩ | ⟨k, hk, h1, h2⟩
  · have H1 := Lib.hid h1
    rw [h2] at HL
    cases hs : sessOk l <;>
    · have HS := Lib.hid hs
      rw [hs] at HL
      clear hs h1 h2
      go_enter Try.func13, Try.ntmps13
      go_wp2_with (first
        | (go_at_call 20; ((with_reducible refine (reffind_ses l _ _ _ _ _ rfl hm hr).mono ?_); rw [H1.out]; rintro e w2 ⟨rfl, hb⟩))
        | (go_at_call 11; ((with_reducible refine (refcheck_ses l _ _ _ _ rfl hm (LRow.below hr (by repeat' (first | (with_reducible exact Below.refl _ _) | (with_reducible assumption) | (with_reducible refine Below.drew ?_) | (with_reducible refine Below.more ?_ _) | (with_reducible refine Below.put ?_ ?_ _) | (with_reducible refine Below.next ?_ (by with_reducible assumption)) | (with_reducible exact Nat.le_refl _) | (with_reducible refine Below.size' ?_) | omega)))).mono ?_); rw [HS.out]; rintro e w3 ⟨rfl, hb3⟩)))
      go_returns
      exact ⟨ret_int (by rw [HL.out]; rfl), (by repeat' (first | (with_reducible exact Below.refl _ _) | (with_reducible assumption) | (with_reducible refine Below.drew ?_) | (with_reducible refine Below.more ?_ _) | (with_reducible refine Below.put ?_ ?_ _) | (with_reducible refine Below.next ?_ (by with_reducible assumption)) | (with_reducible exact Nat.le_refl _) | (with_reducible refine Below.size' ?_) | omega))⟩
  · have H1 := Lib.hid h1
    rw [h2] at HL
    obtain ⟨b, o, rfl, hcs⟩ := atSes hr hk
    have HCS := Lib.hid hcs
    generalize l[k] = x at HL HCS
    have hk1 : ((k : Int) < 0) = False := by simp
    have hkd : decide ((k : Int) < 0) = false := decide_eq_false (by omega)
    clear h1 h2 hcs
    cases hs : sessOk l
    · have HS := Lib.hid hs
      rw [hs] at HL
      clear hs
      go_enter Try.func13, Try.ntmps13
      go_wp2_with (first
        | (go_at_call 20; ((with_reducible refine (reffind_ses l _ _ _ _ _ rfl hm hr).mono ?_); rw [H1.out]; rintro e w2 ⟨rfl, hb⟩))
        | (go_at_call 11; ((with_reducible refine (refcheck_ses l _ _ _ _ rfl hm (LRow.below hr (by repeat' (first | (with_reducible exact Below.refl _ _) | (with_reducible assumption) | (with_reducible refine Below.drew ?_) | (with_reducible refine Below.more ?_ _) | (with_reducible refine Below.put ?_ ?_ _) | (with_reducible refine Below.next ?_ (by with_reducible assumption)) | (with_reducible exact Nat.le_refl _) | (with_reducible refine Below.size' ?_) | omega)))).mono ?_); rw [HS.out]; rintro e w3 ⟨rfl, hb3⟩)))
      go_returns
      exact ⟨ret_int (by rw [HL.out]; rfl), (by repeat' (first | (with_reducible exact Below.refl _ _) | (with_reducible assumption) | (with_reducible refine Below.drew ?_) | (with_reducible refine Below.more ?_ _) | (with_reducible refine Below.put ?_ ?_ _) | (with_reducible refine Below.next ?_ (by with_reducible assumption)) | (with_reducible exact Nat.le_refl _) | (with_reducible refine Below.size' ?_) | omega))⟩
    · have HS := Lib.hid hs
      rw [hs] at HL
      clear hs
      go_enter Try.func13, Try.ntmps13
      go_wp2_with (first
        | (go_at_call 20; ((with_reducible refine (reffind_ses l _ _ _ _ _ rfl hm hr).mono ?_); rw [H1.out]; rintro e w2 ⟨rfl, hb⟩))
        | (go_at_call 11; ((with_reducible refine (refcheck_ses l _ _ _ _ rfl hm (LRow.below hr (by repeat' (first | (with_reducible exact Below.refl _ _) | (with_reducible assumption) | (with_reducible refine Below.drew ?_) | (with_reducible refine Below.more ?_ _) | (with_reducible refine Below.put ?_ ?_ _) | (with_reducible refine Below.next ?_ (by with_reducible assumption)) | (with_reducible exact Nat.le_refl _) | (with_reducible refine Below.size' ?_) | omega)))).mono ?_); rw [HS.out]; rintro e w3 ⟨rfl, hb3⟩; have hx := HCS.out w3 (by repeat' (first | (with_reducible exact Below.refl _ _) | (with_reducible assumption) | (with_reducible refine Below.drew ?_) | (with_reducible refine Below.more ?_ _) | (with_reducible refine Below.put ?_ ?_ _) | (with_reducible refine Below.next ?_ (by with_reducible assumption)) | (with_reducible exact Nat.le_refl _) | (with_reducible refine Below.size' ?_) | omega)); obtain ⟨_, hx1, _⟩ := hx)))
      go_returns
      exact ⟨ret_int (by rw [HL.out]; rfl), (by repeat' (first | (with_reducible exact Below.refl _ _) | (with_reducible assumption) | (with_reducible refine Below.drew ?_) | (with_reducible refine Below.more ?_ _) | (with_reducible refine Below.put ?_ ?_ _) | (with_reducible refine Below.next ?_ (by with_reducible assumption)) | (with_reducible exact Nat.le_refl _) | (with_reducible refine Below.size' ?_) | omega))⟩

def RetAsk (w : World) (r : Ans × Bool × Int) (e : Ending) (w' : World) : Prop := e = .returned (.tuple #[r.1.agg, .bool r.2.1, .int .i64 r.2.2]) ∧ Below w.heap.size w w'
theorem mayS_ok {l : List Session} {c n : Int} (h : mayS l c n = true) : sessOk l = true ∧ 1 ≤ c ∧ c ≤ 16 ∧ 1 ≤ n := by
  unfold mayS at h
  simp only [Bool.and_eq_true, decide_eq_true_eq] at h
  exact ⟨h.1, h.2.1, h.2.2.1, h.2.2.2⟩

set_option maxHeartbeats 4000000 in
theorem ask_ses (l : List Session) (a : Option Addr) (n c : Nat) (id num : Int) (w : World) (hn : l.length = n) (hl : n ≤ 1000000) (hr : LRow laySes w a l) :
    Calls Try.prog 8 #[.slice a n c, .int .i64 id, .int .i64 num] w (RetAsk w (askS l id num)) := by
  have HA : Hid (askS l id num = if mayS l id num = false then (Ans.err 0, false, 2) else if num < (findS l id).1.number then (Ans.err 0, false, 150) else if num = (findS l id).1.number then ((findS l id).1.answer, false, 0) else (Ans.err 0, true, 0)) := rfl
  generalize askS l id num = res at HA ⊢
  have hm := le_maxLen (Nat.le_trans hl (by decide) : n ≤ 1048576)
  have HBT := Lib.hid (fun w' (q : Below (World.alloc w (.cells #[.int .i64 0, .int .i64 0, .int .i64 0, .int .i64 0, .int .i64 0] 26)).heap.size (World.alloc w (.cells #[.int .i64 0, .int .i64 0, .int .i64 0, .int .i64 0, .int .i64 0] 26)) w') => And.intro (box_there q) (And.intro (box_range (cs := (Ans.err 0).cells) q) (Below.boxed q)))
  cases hs : mayS l id num with
  | false =>
    have HS := Lib.hid hs
    rw [hs, if_pos rfl] at HA
    clear hs
    go_enter Try.func8, Try.ntmps8
    go_wp2_with (first
      | (go_at_call 17; ((with_reducible refine (may_ses l _ _ _ _ _ _ hn hm (LRow.below hr (by repeat' (first | (with_reducible exact Below.refl _ _) | (with_reducible assumption) | (with_reducible refine Below.drew ?_) | (with_reducible refine Below.more ?_ _) | (with_reducible refine Below.put ?_ ?_ _) | (with_reducible refine Below.next ?_ (by with_reducible assumption)) | (with_reducible exact Nat.le_refl _) | (with_reducible refine Below.size' ?_) | omega)))).mono ?_); rw [HS.out]; rintro e w2 ⟨rfl, hb⟩; obtain ⟨ht2, hg2, hz2⟩ := HBT.out w2 (by repeat' (first | (with_reducible exact Below.refl _ _) | (with_reducible assumption) | (with_reducible refine Below.drew ?_) | (with_reducible refine Below.more ?_ _) | (with_reducible refine Below.put ?_ ?_ _) | (with_reducible refine Below.next ?_ (by with_reducible assumption)) | (with_reducible exact Nat.le_refl _) | (with_reducible refine Below.size' ?_) | omega)); have HT := Lib.hid ht2; have HG := Lib.hid hg2; clear ht2 hg2))
      | (refine wpList_load_as layAns rfl (.tmp 6) rfl w.heap.size 0 rfl (Ans.err 0) (Ans.err 0).agg rfl HG.out ?_)
      | (refine wpList_store_there layAns rfl (.tmp 6) (.tmp 16) rfl w.heap.size 0 (Ans.err 0) rfl rfl HT.out ?_; intro w5 hr5 _ hb5 _; have HR5 := Lib.hid hr5; have hb6 := hb5 w.heap.size (Nat.le_refl _); clear hr5 hb5))
    obtain ⟨c0, c1, c2, c3, c4⟩ := cellsAns HR5.out
    simp only [Nat.zero_add] at c1 c2 c3 c4
    refine bodyPost_ret (v := .tuple #[(Ans.err 0).agg, .bool false, .int .i64 2]) (by simp [results, Try.results8, go_sem, c0, c1, c2, c3, c4]) rfl ?_
    have q : Below w.heap.size w w2 := (by repeat' (first | (with_reducible exact Below.refl _ _) | (with_reducible assumption) | (with_reducible refine Below.drew ?_) | (with_reducible refine Below.more ?_ _) | (with_reducible refine Below.put ?_ ?_ _) | (with_reducible refine Below.next ?_ (by with_reducible assumption)) | (with_reducible exact Nat.le_refl _) | (with_reducible refine Below.size' ?_) | omega))
    exact ⟨by rw [HA.out], q.trans hb6⟩
  | true =>
    have HS := Lib.hid hs
    obtain ⟨hs1, hi1, hi2, hn1⟩ := mayS_ok hs
    have HS1 := Lib.hid hs1
    have HID := Lib.hid (wf_small (n := id) (by omega) (by omega))
    rw [hs, if_neg (by simp)] at HA
    rcases hf : findS l id with ⟨⟨sc, sn, se, sr, sb, sl, sz⟩, ok⟩
    rw [hf] at HA
    simp only at HA
    have HF := Lib.hid hf
    clear hs hs1 hf hi1 hi2 hn1
    by_cases h1 : num < sn
    · rw [if_pos h1] at HA
      go_enter Try.func8, Try.ntmps8
      go_wp2_with (first
        | (go_at_call 17; ((with_reducible refine (may_ses l _ _ _ _ _ _ hn hm (LRow.below hr (by repeat' (first | (with_reducible exact Below.refl _ _) | (with_reducible assumption) | (with_reducible refine Below.drew ?_) | (with_reducible refine Below.more ?_ _) | (with_reducible refine Below.put ?_ ?_ _) | (with_reducible refine Below.next ?_ (by with_reducible assumption)) | (with_reducible exact Nat.le_refl _) | (with_reducible refine Below.size' ?_) | omega)))).mono ?_); rw [HS.out]; rintro e w2 ⟨rfl, hb⟩))
        | (go_at_call 18; ((with_reducible refine (find_ses l _ _ _ _ _ hn hl (LRow.below hr (by repeat' (first | (with_reducible exact Below.refl _ _) | (with_reducible assumption) | (with_reducible refine Below.drew ?_) | (with_reducible refine Below.more ?_ _) | (with_reducible refine Below.put ?_ ?_ _) | (with_reducible refine Below.next ?_ (by with_reducible assumption)) | (with_reducible exact Nat.le_refl _) | (with_reducible refine Below.size' ?_) | omega))) HS1.out HID.out).mono ?_); rw [HF.out]; rintro e w3 ⟨rfl, hb3⟩; obtain ⟨ht3, hg3, hz3⟩ := HBT.out w3 (by repeat' (first | (with_reducible exact Below.refl _ _) | (with_reducible assumption) | (with_reducible refine Below.drew ?_) | (with_reducible refine Below.more ?_ _) | (with_reducible refine Below.put ?_ ?_ _) | (with_reducible refine Below.next ?_ (by with_reducible assumption)) | (with_reducible exact Nat.le_refl _) | (with_reducible refine Below.size' ?_) | omega)); have HT := Lib.hid (World.there_alloc ht3 (.cells #[.int .i64 sc, .int .i64 sn, .int .i64 se, .int .i64 sr, .int .i64 sb, .int .i64 sl, .int .i64 sz] 44)); have HG := Lib.hid (World.rangeAt_alloc hg3 (.cells #[.int .i64 sc, .int .i64 sn, .int .i64 se, .int .i64 sr, .int .i64 sb, .int .i64 sl, .int .i64 sz] 44)); clear ht3 hg3))
        | (refine wpList_load_as layAns rfl (.tmp 6) rfl w.heap.size 0 rfl (Ans.err 0) (Ans.err 0).agg rfl HG.out ?_)
        | (refine wpList_store_there layAns rfl (.tmp 6) (.tmp 28) rfl w.heap.size 0 (Ans.err 0) rfl rfl HT.out ?_; intro w5 hr5 _ hb5 _; have HR5 := Lib.hid hr5; have hb6 := hb5 w.heap.size (Nat.le_refl _); clear hr5 hb5))
      obtain ⟨c0, c1, c2, c3, c4⟩ := cellsAns HR5.out
      simp only [Nat.zero_add] at c1 c2 c3 c4
      refine bodyPost_ret (v := .tuple #[(Ans.err 0).agg, .bool false, .int .i64 150]) (by simp [results, Try.results8, go_sem, c0, c1, c2, c3, c4]) rfl ?_
      have q : Below w.heap.size w (World.alloc w3 (.cells #[.int .i64 sc, .int .i64 sn, .int .i64 se, .int .i64 sr, .int .i64 sb, .int .i64 sl, .int .i64 sz] 44)) := (by repeat' (first | (with_reducible exact Below.refl _ _) | (with_reducible assumption) | (with_reducible refine Below.drew ?_) | (with_reducible refine Below.more ?_ _) | (with_reducible refine Below.put ?_ ?_ _) | (with_reducible refine Below.next ?_ (by with_reducible assumption)) | (with_reducible exact Nat.le_refl _) | (with_reducible refine Below.size' ?_) | omega))
      exact ⟨by rw [HA.out], q.trans hb6⟩
    rw [if_neg h1] at HA
    by_cases h2 : num = sn
    · rw [if_pos h2] at HA
      have h3 := h2.symm
      clear h2
      subst h3
      clear h1
      go_enter Try.func8, Try.ntmps8
      go_wp2_with (first
        | (go_at_call 17; ((with_reducible refine (may_ses l _ _ _ _ _ _ hn hm (LRow.below hr (by repeat' (first | (with_reducible exact Below.refl _ _) | (with_reducible assumption) | (with_reducible refine Below.drew ?_) | (with_reducible refine Below.more ?_ _) | (with_reducible refine Below.put ?_ ?_ _) | (with_reducible refine Below.next ?_ (by with_reducible assumption)) | (with_reducible exact Nat.le_refl _) | (with_reducible refine Below.size' ?_) | omega)))).mono ?_); rw [HS.out]; rintro e w2 ⟨rfl, hb⟩))
        | (go_at_call 18; ((with_reducible refine (find_ses l _ _ _ _ _ hn hl (LRow.below hr (by repeat' (first | (with_reducible exact Below.refl _ _) | (with_reducible assumption) | (with_reducible refine Below.drew ?_) | (with_reducible refine Below.more ?_ _) | (with_reducible refine Below.put ?_ ?_ _) | (with_reducible refine Below.next ?_ (by with_reducible assumption)) | (with_reducible exact Nat.le_refl _) | (with_reducible refine Below.size' ?_) | omega))) HS1.out HID.out).mono ?_); rw [HF.out]; rintro e w3 ⟨rfl, hb3⟩; obtain ⟨ht3, hg3, hz3⟩ := HBT.out w3 (by repeat' (first | (with_reducible exact Below.refl _ _) | (with_reducible assumption) | (with_reducible refine Below.drew ?_) | (with_reducible refine Below.more ?_ _) | (with_reducible refine Below.put ?_ ?_ _) | (with_reducible refine Below.next ?_ (by with_reducible assumption)) | (with_reducible exact Nat.le_refl _) | (with_reducible refine Below.size' ?_) | omega)); have HT := Lib.hid (World.there_alloc ht3 (.cells #[.int .i64 sc, .int .i64 sn, .int .i64 se, .int .i64 sr, .int .i64 sb, .int .i64 sl, .int .i64 sz] 44)); have HG := Lib.hid (World.rangeAt_alloc hg3 (.cells #[.int .i64 sc, .int .i64 sn, .int .i64 se, .int .i64 sr, .int .i64 sb, .int .i64 sl, .int .i64 sz] 44)); clear ht3 hg3))
        | (refine wpList_store_there layAns rfl (.tmp 6) (.tmp 35) rfl w.heap.size 0 ⟨se, sr, sb, sl, sz⟩ rfl rfl HT.out ?_; intro w5 hr5 _ hb5 _; have HR5 := Lib.hid hr5; have hb6 := hb5 w.heap.size (Nat.le_refl _); clear hr5 hb5))
      obtain ⟨c0, c1, c2, c3, c4⟩ := cellsAns HR5.out
      simp only [Nat.zero_add] at c1 c2 c3 c4
      refine bodyPost_ret (v := .tuple #[Ans.agg ⟨se, sr, sb, sl, sz⟩, .bool false, .int .i64 0]) (by simp [results, Try.results8, go_sem, c0, c1, c2, c3, c4]) rfl ?_
      have q : Below w.heap.size w (World.alloc w3 (.cells #[.int .i64 sc, .int .i64 sn, .int .i64 se, .int .i64 sr, .int .i64 sb, .int .i64 sl, .int .i64 sz] 44)) := (by repeat' (first | (with_reducible exact Below.refl _ _) | (with_reducible assumption) | (with_reducible refine Below.drew ?_) | (with_reducible refine Below.more ?_ _) | (with_reducible refine Below.put ?_ ?_ _) | (with_reducible refine Below.next ?_ (by with_reducible assumption)) | (with_reducible exact Nat.le_refl _) | (with_reducible refine Below.size' ?_) | omega))
      exact ⟨by rw [HA.out], q.trans hb6⟩
    · rw [if_neg h2] at HA
      have g2 : (num == sn) = false := beq_eq_false_iff_ne.2 h2
      clear h2
      go_enter Try.func8, Try.ntmps8
      go_wp2_with (first
        | (go_at_call 17; ((with_reducible refine (may_ses l _ _ _ _ _ _ hn hm (LRow.below hr (by repeat' (first | (with_reducible exact Below.refl _ _) | (with_reducible assumption) | (with_reducible refine Below.drew ?_) | (with_reducible refine Below.more ?_ _) | (with_reducible refine Below.put ?_ ?_ _) | (with_reducible refine Below.next ?_ (by with_reducible assumption)) | (with_reducible exact Nat.le_refl _) | (with_reducible refine Below.size' ?_) | omega)))).mono ?_); rw [HS.out]; rintro e w2 ⟨rfl, hb⟩))
        | (go_at_call 18; ((with_reducible refine (find_ses l _ _ _ _ _ hn hl (LRow.below hr (by repeat' (first | (with_reducible exact Below.refl _ _) | (with_reducible assumption) | (with_reducible refine Below.drew ?_) | (with_reducible refine Below.more ?_ _) | (with_reducible refine Below.put ?_ ?_ _) | (with_reducible refine Below.next ?_ (by with_reducible assumption)) | (with_reducible exact Nat.le_refl _) | (with_reducible refine Below.size' ?_) | omega))) HS1.out HID.out).mono ?_); rw [HF.out]; rintro e w3 ⟨rfl, hb3⟩; obtain ⟨ht3, hg3, hz3⟩ := HBT.out w3 (by repeat' (first | (with_reducible exact Below.refl _ _) | (with_reducible assumption) | (with_reducible refine Below.drew ?_) | (with_reducible refine Below.more ?_ _) | (with_reducible refine Below.put ?_ ?_ _) | (with_reducible refine Below.next ?_ (by with_reducible assumption)) | (with_reducible exact Nat.le_refl _) | (with_reducible refine Below.size' ?_) | omega)); have HT := Lib.hid (World.there_alloc ht3 (.cells #[.int .i64 sc, .int .i64 sn, .int .i64 se, .int .i64 sr, .int .i64 sb, .int .i64 sl, .int .i64 sz] 44)); have HG := Lib.hid (World.rangeAt_alloc hg3 (.cells #[.int .i64 sc, .int .i64 sn, .int .i64 se, .int .i64 sr, .int .i64 sb, .int .i64 sl, .int .i64 sz] 44)); clear ht3 hg3))
        | (refine wpList_load_as layAns rfl (.tmp 6) rfl w.heap.size 0 rfl (Ans.err 0) (Ans.err 0).agg rfl HG.out ?_)
        | (refine wpList_store_there layAns rfl (.tmp 6) (.tmp 36) rfl w.heap.size 0 (Ans.err 0) rfl rfl HT.out ?_; intro w5 hr5 _ hb5 _; have HR5 := Lib.hid hr5; have hb6 := hb5 w.heap.size (Nat.le_refl _); clear hr5 hb5))
      obtain ⟨c0, c1, c2, c3, c4⟩ := cellsAns HR5.out
      simp only [Nat.zero_add] at c1 c2 c3 c4
      refine bodyPost_ret (v := .tuple #[(Ans.err 0).agg, .bool true, .int .i64 0]) (by simp [results, Try.results8, go_sem, c0, c1, c2, c3, c4]) rfl ?_
      have q : Below w.heap.size w (World.alloc w3 (.cells #[.int .i64 sc, .int .i64 sn, .int .i64 se, .int .i64 sr, .int .i64 sb, .int .i64 sl, .int .i64 sz] 44)) := (by repeat' (first | (with_reducible exact Below.refl _ _) | (with_reducible assumption) | (with_reducible refine Below.drew ?_) | (with_reducible refine Below.more ?_ _) | (with_reducible refine Below.put ?_ ?_ _) | (with_reducible refine Below.next ?_ (by with_reducible assumption)) | (with_reducible exact Nat.le_refl _) | (with_reducible refine Below.size' ?_) | omega))
      exact ⟨by rw [HA.out], q.trans hb6⟩
end Go.Proofs.Ytnebibflmlgbbaa
