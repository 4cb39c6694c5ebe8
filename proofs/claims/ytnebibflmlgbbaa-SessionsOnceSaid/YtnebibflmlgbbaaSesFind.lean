import Derived.Test.YtnebibflmlgbbaaSesCheck
import Derived.Test.YtnebibflmlgbbaaMaps
import Derived.Test.YtnebibflmlgbbaaLay2
import Derived.Test.YtnebibflmlgbbaaIdx
import Derived.WalkArith
namespace Go.Proofs.Ytnebibflmlgbbaa
open Go.ChangeShapes Go.WideShapes Go.ChangeAt Go.RowKit Go.Maps

/-- Clients as keys. -/
def keyCl : KeyKind Try.prog 52 Int where
  keyed := Keyed.of_law (deep_law_laid (by kernel_rfl) (m := 20) (by omega) (of_decide_eq_true (by kernel_rfl)) (by kernel_rfl) (by kernel_rfl))
  enc n := .agg #[.int .i64 n]
  kl n := .string (keyBytes [.int .i64 n])
  good n := (Lit.int .i64 n).wf = true
  key n h := keyOf_struct1 Try.underlying52 rfl rfl rfl (by kernel_rfl) (by kernel_rfl) (by kernel_rfl) Try.underlying3 ⟨Try.prog.types.size - 1, by kernel_rfl⟩ h
  inj _ _ h := by simpa using h

/-- The function tells of each client a place of it among the first k. -/
def PlOk (l : List Session) (k : Nat) (f : Int → Option Int) : Prop :=
  ∀ id, (f id = none ∧ ∀ j (h : j < l.length), j < k → l[j].client ≠ id) ∨ ∃ j, ∃ h : j < l.length, j < k ∧ l[j].client = id ∧ f id = some (j : Int)
theorem PlOk.zero (l : List Session) : PlOk l 0 (fun _ => none) := fun id => .inl ⟨rfl, fun j _ hj => by omega⟩
theorem PlOk.next {l : List Session} {k : Nat} {f : Int → Option Int} (h : PlOk l k f) (hk : k < l.length) : PlOk l (k + 1) (upd f l[k].client (k : Int)) := fun id => by
  unfold upd
  by_cases e : id = l[k].client
  · rw [if_pos e]; exact .inr ⟨k, hk, by omega, e.symm, rfl⟩
  · rw [if_neg e]
    rcases h id with ⟨h1, h2⟩ | ⟨j, hj, h1, h2, h3⟩
    · refine .inl ⟨h1, fun j hj hjk => ?_⟩
      by_cases e2 : j = k
      · subst e2; exact fun h => e h.symm
      · exact h2 j hj (by omega)
    · exact .inr ⟨j, hj, by omega, h2, h3⟩
theorem PlOk.find {l : List Session} {f : Int → Option Int} (h : PlOk l l.length f) (hs : sessOk l = true) (id : Int) :
    (f id = none ∧ findK Session.client l id = none) ∨ ∃ j, ∃ hj : j < l.length, f id = some (j : Int) ∧ findK Session.client l id = some l[j] := by
  rcases h id with ⟨h1, h2⟩ | ⟨j, hj, h1, h2, h3⟩
  · exact .inl ⟨h1, findK_none fun j hj => h2 j hj hj⟩
  · exact .inr ⟨j, hj, h3, findK_at (chainOk_iff.1 hs).2 hj h2⟩
theorem wf_small {n : Int} (h1 : -1000000000000 ≤ n) (h2 : n ≤ 1000000000000) : (Lit.int .i64 n).wf = true := by
  exact Go.WalkArith.wf_i64 ⟨by omega, by omega⟩

def RetPl (l : List Session) (w : World) (e : Ending) (w' : World) : Prop := ∃ b f, e = .returned (.map (some b)) ∧ w.heap.size ≤ b ∧ PlOk l l.length f ∧ MapI keyCl 3 w' b l.length f ∧ Below w.heap.size w w'

set_option maxHeartbeats 2000000 in
theorem places_any (l : List Session) (a : Option Addr) (n c : Nat) (w : World) (hn : l.length = n) (hl : n ≤ 1000000) (hr : LRow laySes w a l) (hwf : ∀ s ∈ l, (Lit.int .i64 s.client).wf = true) :
    Calls Try.prog 23 #[.slice a n c] w (RetPl l w) := by
  subst hn
  have hmax : l.length < maxLen := by unfold maxLen; omega
  have hmm := @run_makeMap Try.prog
  have HWF := Lib.hid hwf
  clear hwf
  go_enter Try.func23, Try.ntmps23
  go_wp2
  go_loopw [9] (fun i wr => ∃ k : Nat, ∃ f, k ≤ l.length ∧ i = .int .i64 k ∧ Hid (PlOk l k f) ∧ Hid (MapI keyCl 3 wr w.heap.size k f) ∧ Below w.heap.size w wr) (fun i _ => l.length - (intOf i).toNat)
  case atStart => exact ⟨0, fun _ => none, by omega, rfl, PlOk.zero l, MapI.made w, (Below.refl _ _).alloc (Nat.le_refl _) _⟩
  case round =>
    obtain ⟨k, f, hk, rfl, hp, hm, hb⟩ := hrel
    by_cases hlt : k < l.length
    · obtain ⟨b, o, rfl, hcs⟩ := atSes hr hlt
      have hx := hcs _ hb
      have HP1 := Lib.hid (hp.out.next hlt)
      have HW := Lib.hid (HWF.out l[k] (List.getElem_mem hlt))
      generalize l[k] = x at hx HP1 HW
      have hmb := hm.out.lt
      clear hcs
      go_wp2_with (refine wpList_putI keyCl Try.underlying49 Try.underlying3 rfl (.tmp 14) (.tmp 17) (.tmp 18) rfl w.heap.size k f rfl (hm.out.alloc _) (by omega) x.client HW.out rfl k rfl (wf_small (by omega) (by omega)) ?_; intro w3 hm3 hg3)
      exact ⟨⟨k + 1, _, by omega, by go_num, HP1.out, hm3, (hb.alloc hb.size _).grown hg3 (by have := hb.size; simp; omega) (fun _ h => by cases h; exact Nat.le_refl _)⟩, by simp [intOf]; omega⟩
    · obtain rfl : k = l.length := by omega
      go_wp2
      go_returns
      exact ⟨w.heap.size, f, rfl, Nat.le_refl _, hp.out, hm.out, hb⟩

def zeroS : Session := ⟨0, 0, Ans.err 0⟩
def findS (l : List Session) (id : Int) : Session × Bool := match findK Session.client l id with | some s => (s, true) | none => (zeroS, false)
def RetSF (w : World) (r : Session × Bool) (e : Ending) (w' : World) : Prop := e = .returned (.tuple #[r.1.agg, .bool r.2]) ∧ Below w.heap.size w w'
theorem sessOk_wf {l : List Session} (hs : sessOk l = true) : ∀ s ∈ l, 1 ≤ s.client ∧ s.client ≤ 16 ∧ 1 ≤ s.number := fun s h => by
  have h1 := (chainOk_iff.1 hs).1 s h
  have h2 := h1.2
  unfold sesGood at h2
  simp only [Bool.and_eq_true, decide_eq_true_eq] at h2
  omega

theorem zero_int (w : World) : (zeroValue 3).run Try.prog w = .ok (.int .i64 0) w := by kernel_rfl
set_option maxHeartbeats 2000000 in
theorem find_ses (l : List Session) (a : Option Addr) (n c : Nat) (id : Int) (w : World) (hn : l.length = n) (hl : n ≤ 1000000) (hr : LRow laySes w a l) (hs : sessOk l = true) (hid : (Lit.int .i64 id).wf = true) :
    Calls Try.prog 18 #[.slice a n c, .int .i64 id] w (RetSF w (findS l id)) := by
  subst hn
  have HP := Lib.hid (fun f (h : PlOk l l.length f) => h.find hs id)
  have HWF := Lib.hid (fun s h => wf_small (n := Session.client s) (by have := sessOk_wf hs s h; omega) (by have := sessOk_wf hs s h; omega))
  have HID := Lib.hid hid
  have HR : Hid (findS l id = match findK Session.client l id with | some s => (s, true) | none => (zeroS, false)) := rfl
  generalize findS l id = res at HR ⊢
  clear hs hid
  by_cases h0 : ∃ s, findK Session.client l id = some s
  · obtain ⟨s, h0⟩ := h0
    have HPS : Hid (∀ f, PlOk l l.length f → ∃ j, ∃ hj : j < l.length, f id = some (j : Int) ∧ l[j] = s) := fun f hf => by
      rcases HP.out f hf with ⟨_, h2⟩ | ⟨j, hj, h1, h2⟩
      · rw [h0] at h2; cases h2
      · rw [h0] at h2; exact ⟨j, hj, h1, by simpa using h2.symm⟩
    have H0 : Hid (res = (s, true)) := by show _ = _; rw [HR.out, h0]
    obtain ⟨j0, hj0, _⟩ : ∃ j, ∃ hj : j < l.length, l[j] = s := List.mem_iff_getElem.1 (findK_mem h0).1
    obtain ⟨b, o, rfl, _⟩ := atSes hr hj0
    clear h0 HP
    go_enter Try.func18, Try.ntmps18
    go_wp2_with (first
      | (go_at_call 23; ((with_reducible refine (places_any l _ _ _ _ rfl hl (LRow.below hr (by repeat' (first | (with_reducible exact Below.refl _ _) | (with_reducible assumption) | (with_reducible refine Below.drew ?_) | (with_reducible refine Below.more ?_ _) | (with_reducible refine Below.put ?_ ?_ _) | (with_reducible refine Below.next ?_ (by with_reducible assumption)) | (with_reducible exact Nat.le_refl _) | (with_reducible refine Below.size' ?_) | omega))) HWF.out).mono ?_); rintro e w2 ⟨mb, f, rfl, hmb, hf, hm, hb2⟩; have HF := HPS.out f hf; have HM := Lib.hid hm; have HTH := Lib.hid (box_there hb2); have HRG := Lib.hid (box_range (cs := zeroS.cells) hb2); have hsz := Below.boxed hb2; have hb2w : Below w.heap.size w w2 := (by repeat' (first | (with_reducible exact Below.refl _ _) | (with_reducible assumption) | (with_reducible refine Below.drew ?_) | (with_reducible refine Below.more ?_ _) | (with_reducible refine Below.put ?_ ?_ _) | (with_reducible refine Below.next ?_ (by with_reducible assumption)) | (with_reducible exact Nat.le_refl _) | (with_reducible refine Below.size' ?_) | omega)); clear hf hm; obtain ⟨j, hj, h1, hjs⟩ := HF; obtain ⟨b2, o2, e2, hcs⟩ := LRow.range hr hj; simp only [Option.some.injEq, Addr.mk.injEq, and_true] at e2; obtain ⟨rfl, rfl⟩ := e2; have hx := hcs w2 (by repeat' (first | (with_reducible exact Below.refl _ _) | (with_reducible assumption) | (with_reducible refine Below.drew ?_) | (with_reducible refine Below.more ?_ _) | (with_reducible refine Below.put ?_ ?_ _) | (with_reducible refine Below.next ?_ (by with_reducible assumption)) | (with_reducible exact Nat.le_refl _) | (with_reducible refine Below.size' ?_) | omega)); rw [hjs] at hx; have HX := Lib.hid hx; clear hcs hx hjs))
      | (refine wpList_getOkI keyCl Try.underlying49 Try.underlying3 zero_int rfl (.tmp 9) (.tmp 11) rfl mb l.length f rfl HM.out id HID.out rfl ?_)
      | (refine wpList_load_lay laySes rfl (.tmp 18) rfl b (o + j * 7) rfl s HX.out ?_)
      | (refine wpList_store_there laySes rfl (.tmp 4) (.tmp 19) rfl w.heap.size 0 s rfl rfl HTH.out ?_; intro w4 hr4 ht4 hb4 hs4; have HR4 := Lib.hid hr4; have HT4 := Lib.hid ht4; have hb7 := hb4 w.heap.size (Nat.le_refl _); clear hr4 hb4 ht4)
      | (refine wpList_load_lay laySes rfl (.tmp 4) rfl w.heap.size 0 rfl s HR4.out ?_)
      | (refine wpList_store_there laySes rfl (.tmp 4) (.tmp 20) rfl w.heap.size 0 s rfl rfl HT4.out ?_; intro w5 hr5 _ hb5 hs5; have HR5 := Lib.hid hr5; have hb6 := hb5 w.heap.size (Nat.le_refl _); clear hr5 hb5))
    obtain ⟨c0, c1, c2, c3, c4, c5, c6⟩ := cellsSes HR5.out
    simp only [Nat.zero_add] at c1 c2 c3 c4 c5 c6
    refine bodyPost_ret (v := .tuple #[s.agg, .bool true]) (by simp [results, Try.results18, go_sem, c0, c1, c2, c3, c4, c5, c6]) rfl ?_
    exact ⟨by rw [H0.out], (hb2w.trans hb7).trans hb6⟩
  · have h1 : findK Session.client l id = none := by
      cases h : findK Session.client l id with
      | none => rfl
      | some s => exact absurd ⟨s, h⟩ h0
    have HPN : Hid (∀ f, PlOk l l.length f → f id = none) := fun f hf => by
      rcases HP.out f hf with ⟨h2, _⟩ | ⟨j, hj, _, h2⟩
      · exact h2
      · rw [h1] at h2; cases h2
    have H0 : Hid (res = (zeroS, false)) := by show _ = _; rw [HR.out, h1]
    clear h0 h1 HP
    go_enter Try.func18, Try.ntmps18
    go_wp2_with (first
      | (go_at_call 23; ((with_reducible refine (places_any l _ _ _ _ rfl hl (LRow.below hr (by repeat' (first | (with_reducible exact Below.refl _ _) | (with_reducible assumption) | (with_reducible refine Below.drew ?_) | (with_reducible refine Below.more ?_ _) | (with_reducible refine Below.put ?_ ?_ _) | (with_reducible refine Below.next ?_ (by with_reducible assumption)) | (with_reducible exact Nat.le_refl _) | (with_reducible refine Below.size' ?_) | omega))) HWF.out).mono ?_); rintro e w2 ⟨mb, f, rfl, hmb, hf, hm, hb2⟩; have HF := HPN.out f hf; have HM := Lib.hid hm; have HTH := Lib.hid (box_there hb2); have HRG := Lib.hid (box_range (cs := zeroS.cells) hb2); have hsz := Below.boxed hb2; have hb2w : Below w.heap.size w w2 := (by repeat' (first | (with_reducible exact Below.refl _ _) | (with_reducible assumption) | (with_reducible refine Below.drew ?_) | (with_reducible refine Below.more ?_ _) | (with_reducible refine Below.put ?_ ?_ _) | (with_reducible refine Below.next ?_ (by with_reducible assumption)) | (with_reducible exact Nat.le_refl _) | (with_reducible refine Below.size' ?_) | omega)); clear hf hm; have h1 := HF))
      | (refine wpList_getOkI keyCl Try.underlying49 Try.underlying3 zero_int rfl (.tmp 9) (.tmp 11) rfl mb l.length f rfl HM.out id HID.out rfl ?_)
      | (refine wpList_load_lay laySes rfl (.tmp 4) rfl w.heap.size 0 rfl zeroS HRG.out ?_)
      | (refine wpList_store_there laySes rfl (.tmp 4) (.tmp 20) rfl w.heap.size 0 zeroS rfl rfl HTH.out ?_; intro w5 hr5 _ hb5 hs5; have HR5 := Lib.hid hr5; have hb6 := hb5 w.heap.size (Nat.le_refl _); clear hr5 hb5))
    obtain ⟨c0, c1, c2, c3, c4, c5, c6⟩ := cellsSes HR5.out
    simp only [Nat.zero_add] at c1 c2 c3 c4 c5 c6
    refine bodyPost_ret (v := .tuple #[zeroS.agg, .bool false]) (by simp [results, Try.results18, go_sem, c0, c1, c2, c3, c4, c5, c6]) rfl ?_
    exact ⟨by rw [H0.out], hb2w.trans hb6⟩
end Go.Proofs.Ytnebibflmlgbbaa
