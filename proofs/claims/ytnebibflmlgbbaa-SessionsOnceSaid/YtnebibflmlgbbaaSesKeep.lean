import Derived.Test.YtnebibflmlgbbaaSesAsk
import Derived.Test.YtnebibflmlgbbaaInsertMidSes
import Derived.Test.YtnebibflmlgbbaaCloneSes
import Derived.Test.YtnebibflmlgbbaaBinSearchSes
namespace Go.Proofs.Ytnebibflmlgbbaa
open Go.ChangeShapes Go.WideShapes Go.ChangeAt Go.RowKit

theorem keep1_any (x y : Session) (w : World) (h1 : 0 ≤ x.client) (h2 : x.client ≤ 1000000) (h3 : 0 ≤ y.client) (h4 : y.client ≤ 1000000) :
    Calls Try.prog 22 #[x.agg, y.agg] w fun e w' => e = .returned (.int .i64 (x.client - y.client)) ∧ Below w.heap.size w w' := by
  obtain ⟨xc, xn, xa⟩ := x
  obtain ⟨yc, yn, ya⟩ := y
  simp only at h1 h2 h3 h4
  go_enter Try.func22, Try.ntmps22
  go_wp2
  go_returns
  exact ⟨rfl, (by repeat' (first | (with_reducible exact Below.refl _ _) | (with_reducible assumption) | (with_reducible refine Below.drew ?_) | (with_reducible refine Below.more ?_ _) | (with_reducible refine Below.put ?_ ?_ _) | (with_reducible refine Below.next ?_ (by with_reducible assumption)) | (with_reducible exact Nat.le_refl _) | (with_reducible refine Below.size' ?_) | omega))⟩
theorem enter_keep1 (args : Array Value) (w : World) : (callFunc 22 args).run Try.prog w = .ok (.enter 22 args) w := by kernel_rfl

def RetS (w : World) (l : List Session) (e : Ending) (w' : World) : Prop :=
  ∃ a c, e = .returned (.slice a l.length c) ∧ l.length ≤ c ∧ c ≤ maxLen ∧ (a = none → c = 0) ∧ LRow laySes w' a l ∧ Below w.heap.size w w'
theorem own_full {w : World} {B : Nat} {a : Option Addr} {n c : Nat} {xs : List Session} (h : w.ownsRow B 44 laySes.size (.slice a n c) n (xs.flatMap laySes.cells)) : n ≤ c ∧ c ≤ maxLen ∧ (a = none → c = 0) ∧ LRow laySes w a xs := by
  obtain ⟨a', c', hv, h1, h2, h3⟩ := own_slice h
  simp only [Value.slice.injEq] at hv
  obtain ⟨rfl, _, rfl⟩ := hv
  exact ⟨h1, h2, h3, own_row h⟩

set_option maxHeartbeats 4000000 in
theorem put_ses (l : List Session) (x : Session) (a : Option Addr) (n c : Nat) (w : World) (hn : l.length = n) (hl : n ≤ 10000) (hc : a = none → c = 0) (hnc : n ≤ c) (hr : LRow laySes w a l) (hs : sessOk l = true) (hx1 : 1 ≤ x.client) (hx2 : x.client ≤ 16) :
    Calls Try.prog 21 #[.slice a n c, x.agg, .func (.func 22) #[] #[]] w (RetS w (insK Session.client x l)) := by
  subst hn
  have hwf := sessOk_wf hs
  have hpw := (chainOk_iff.1 hs).2
  have hle := lessK_le (key := Session.client) x.client l
  have HS1 := Lib.hid (fun (y : Session) (hy : y ∈ l) w' => keep1_any y x w' (by have := hwf y hy; omega) (by have := hwf y hy; omega) (by omega) (by omega))
  have HLO := Lib.hid (fun j (h : j < l.length) (hj : j < lessK Session.client x.client l) => show l[j].client - x.client < 0 by have := lessK_lo x.client j h hj; omega)
  have HHI := Lib.hid (fun j (h : j < l.length) (hj : lessK Session.client x.client l ≤ j) => show 0 ≤ l[j].client - x.client by have := lessK_hi x.client hpw j h hj; omega)
  have HSOME := Lib.hid (fun y (h1 : l[lessK Session.client x.client l]? = some y) (h2 : y.client = x.client) => insK_some h1 h2)
  have HNONE := Lib.hid (fun (h : ∀ y, l[lessK Session.client x.client l]? = some y → y.client ≠ x.client) => insK_none h)
  have HLEN : Hid ((insK Session.client x l).length = (insK Session.client x l).length) := rfl
  generalize lessK Session.client x.client l = k0 at hle HLO HHI HSOME HNONE
  generalize insK Session.client x l = res at HSOME HNONE ⊢
  clear hs hwf hpw HLEN
  have hcf := enter_keep1
  have HBS := Lib.hid (fun w' (hb : Below w.heap.size w w') => binSearchSes l x a l.length c 22 #[] (fun s => s.client - x.client) k0 w' rfl (by omega) (LRow.below hr hb) hcf (fun y hy w'' _ => HS1.out y hy w'') hle HLO.out HHI.out)
  have HBX := Lib.hid (fun w' (hb : Below (World.alloc w (.cells (Session.cells x).toArray 44)).heap.size (World.alloc w (.cells (Session.cells x).toArray 44)) w') => box_range hb)
  have hnew : ∀ w3 : World, (w3.alloc (.cells #[.int .i64 x.client, .int .i64 x.number, .int .i64 x.answer.e, .int .i64 x.answer.rate, .int .i64 x.answer.burst, .int .i64 x.answer.lease, .int .i64 x.answer.size] 44)).heap[w3.heap.size]? = some (.cells (laySes.cells x).toArray 44 (0, 0)) := fun w3 => heap_alloc_new w3 _
  have HNEW := Lib.hid hnew
  clear hnew
  have hby : l.length * laySes.bytes ≤ 140737488355328 := by show l.length * 56 ≤ _; omega
  have hby1 : (l.length + 1) * laySes.bytes ≤ 140737488355328 := by show (l.length + 1) * 56 ≤ _; omega
  by_cases hhit : ∃ y, l[k0]? = some y ∧ y.client = x.client
  · obtain ⟨y, hy1, hy2⟩ := hhit
    obtain ⟨hk0, _⟩ := List.getElem?_eq_some_iff.1 hy1
    have HR := Lib.hid (HSOME.out y hy1 hy2)
    have HTH : Hid (hitAt (fun s : Session => s.client - x.client) l[k0]? = true) := by show _ = _; rw [hy1]; simp [hitAt, hy2]
    have hne : 0 < l.length := by omega
    have HRL : Hid (res.length = l.length) := by show _ = _; rw [HR.out, List.length_set]
    clear hy1 hy2
    go_enter Try.func21, Try.ntmps21
    go_wp2_with (first
      | (go_at_call 24; ((with_reducible refine (HBS.out _ (by repeat' (first | (with_reducible exact Below.refl _ _) | (with_reducible assumption) | (with_reducible refine Below.drew ?_) | (with_reducible refine Below.more ?_ _) | (with_reducible refine Below.put ?_ ?_ _) | (with_reducible refine Below.next ?_ (by with_reducible assumption)) | (with_reducible exact Nat.le_refl _) | (with_reducible refine Below.size' ?_) | omega))).mono ?_); rw [HTH.out]; rintro e w2 ⟨rfl, hb2⟩))
      | (go_at_call 25; ((with_reducible refine (cloneSes l a _ _ _ rfl hby (le_maxLen (by omega)) hc hnc (LRow.below hr (by repeat' (first | (with_reducible exact Below.refl _ _) | (with_reducible assumption) | (with_reducible refine Below.drew ?_) | (with_reducible refine Below.more ?_ _) | (with_reducible refine Below.put ?_ ?_ _) | (with_reducible refine Below.next ?_ (by with_reducible assumption)) | (with_reducible exact Nat.le_refl _) | (with_reducible refine Below.size' ?_) | omega)))).mono ?_); rintro e w3 ⟨a3, c3, rfl, hnear3, hcan3, hown3, hlt3, hb3⟩; have HX3 := Lib.hid (HBX.out w3 (by repeat' (first | (with_reducible exact Below.refl _ _) | (with_reducible assumption) | (with_reducible refine Below.drew ?_) | (with_reducible refine Below.more ?_ _) | (with_reducible refine Below.put ?_ ?_ _) | (with_reducible refine Below.next ?_ (by with_reducible assumption)) | (with_reducible exact Nat.le_refl _) | (with_reducible refine Below.size' ?_) | omega))); have sx3 := Below.boxed (show Below (World.alloc w (.cells (Session.cells x).toArray 44)).heap.size (World.alloc w (.cells (Session.cells x).toArray 44)) w3 from (by repeat' (first | (with_reducible exact Below.refl _ _) | (with_reducible assumption) | (with_reducible refine Below.drew ?_) | (with_reducible refine Below.more ?_ _) | (with_reducible refine Below.put ?_ ?_ _) | (with_reducible refine Below.next ?_ (by with_reducible assumption)) | (with_reducible exact Nat.le_refl _) | (with_reducible refine Below.size' ?_) | omega))); obtain ⟨g, rfl, hg3, hcm3⟩ := own_head (hown3 hne) (by intro h; have := congrArg List.length h; rw [laySes.length, List.length_nil, Nat.mul_eq_zero] at this; have := laySes.pos; omega); have hm3 := Lib.hid (Mine.of_own (L := laySes) (hown3 hne)); have hle3 := hcan3.le; clear hcan3 hown3))
      | (refine wpList_load_as laySes rfl (.tmp 4) rfl w.heap.size 0 rfl x x.agg rfl HX3.out ?_)
      | (refine wpList_store_mine laySes rfl (.tmp 23) (.tmp 22) rfl (o := 0) hm3.out k0 hk0 x (by rw [Nat.zero_add]; rfl) rfl ?_; intro w4 hm4 hb4 hs4; have HM4 := Lib.hid hm4; have hb5 := hb4 w2.heap.size hg3; clear hm4 hb4))
    go_returns
    refine ⟨some ⟨g, 0, none⟩, c3, by rw [HRL.out]; rfl, by rw [HRL.out]; exact hle3, hcm3, (fun h => by cases h), by rw [HR.out]; exact HM4.out.row, ?_⟩
    have q2 : Below w.heap.size w w2 := (by repeat' (first | (with_reducible exact Below.refl _ _) | (with_reducible assumption) | (with_reducible refine Below.drew ?_) | (with_reducible refine Below.more ?_ _) | (with_reducible refine Below.put ?_ ?_ _) | (with_reducible refine Below.next ?_ (by with_reducible assumption)) | (with_reducible exact Nat.le_refl _) | (with_reducible refine Below.size' ?_) | omega))
    exact q2.trans ((hb3.trans hb5).mono q2.size)
  · have HR := Lib.hid (HNONE.out (fun y h1 h2 => hhit ⟨y, h1, h2⟩))
    have HTH : Hid (hitAt (fun s : Session => s.client - x.client) l[k0]? = false) := by
      show _ = _
      cases hh : l[k0]? with
      | none => rfl
      | some y => unfold hitAt; rw [beq_eq_false_iff_ne]; intro h; exact hhit ⟨y, hh, by simp only at h; omega⟩
    clear hhit
    go_enter Try.func21, Try.ntmps21
    go_wp2_with (first
      | (go_at_call 24; ((with_reducible refine (HBS.out _ (by repeat' (first | (with_reducible exact Below.refl _ _) | (with_reducible assumption) | (with_reducible refine Below.drew ?_) | (with_reducible refine Below.more ?_ _) | (with_reducible refine Below.put ?_ ?_ _) | (with_reducible refine Below.next ?_ (by with_reducible assumption)) | (with_reducible exact Nat.le_refl _) | (with_reducible refine Below.size' ?_) | omega))).mono ?_); rw [HTH.out]; rintro e w2 ⟨rfl, hb2⟩))
      | (go_at_call 25; ((with_reducible refine (cloneSes l a _ _ _ rfl hby (le_maxLen (by omega)) hc hnc (LRow.below hr (by repeat' (first | (with_reducible exact Below.refl _ _) | (with_reducible assumption) | (with_reducible refine Below.drew ?_) | (with_reducible refine Below.more ?_ _) | (with_reducible refine Below.put ?_ ?_ _) | (with_reducible refine Below.next ?_ (by with_reducible assumption)) | (with_reducible exact Nat.le_refl _) | (with_reducible refine Below.size' ?_) | omega)))).mono ?_); rintro e w3 ⟨a3, c3, rfl, hnear3, hcan3, hown3, hlt3, hb3⟩; have HX3 := Lib.hid (HBX.out w3 (by repeat' (first | (with_reducible exact Below.refl _ _) | (with_reducible assumption) | (with_reducible refine Below.drew ?_) | (with_reducible refine Below.more ?_ _) | (with_reducible refine Below.put ?_ ?_ _) | (with_reducible refine Below.next ?_ (by with_reducible assumption)) | (with_reducible exact Nat.le_refl _) | (with_reducible refine Below.size' ?_) | omega))); have sx3 := Below.boxed (show Below (World.alloc w (.cells (Session.cells x).toArray 44)).heap.size (World.alloc w (.cells (Session.cells x).toArray 44)) w3 from (by repeat' (first | (with_reducible exact Below.refl _ _) | (with_reducible assumption) | (with_reducible refine Below.drew ?_) | (with_reducible refine Below.more ?_ _) | (with_reducible refine Below.put ?_ ?_ _) | (with_reducible refine Below.next ?_ (by with_reducible assumption)) | (with_reducible exact Nat.le_refl _) | (with_reducible refine Below.size' ?_) | omega))); have hsz3 := hb3.size))
      | (refine wpList_load_as laySes rfl (.tmp 4) rfl w.heap.size 0 rfl x x.agg rfl HX3.out ?_)
      | (go_at_call 26; ((with_reducible refine (insertSes l x k0 l.length c3 a3 w3.heap.size 44 w2.heap.size _ rfl hle (hcan3.alloc _) (fun h => (hown3 h).alloc _) (HNEW.out w3) (fun b o s hab => Nat.ne_of_gt (hlt3 b o s hab)) hby1 (Nat.le_trans hsz3 (by simp))).mono ?_); rintro e w4 ⟨a4, c4, rfl, hown4, hb4⟩)))
    go_returns
    obtain ⟨h1, h2, h3, h4⟩ := own_full hown4
    have hfin : res = l.take k0 ++ x :: l.drop k0 := HR.out
    have hlen : res.length = l.length + 1 := by rw [hfin]; simp; omega
    refine ⟨a4, c4, by rw [hlen]; rfl, by rw [hlen]; exact h1, h2, h3, by rw [hfin]; exact h4, ?_⟩
    have q2 : Below w.heap.size w w2 := (by repeat' (first | (with_reducible exact Below.refl _ _) | (with_reducible assumption) | (with_reducible refine Below.drew ?_) | (with_reducible refine Below.more ?_ _) | (with_reducible refine Below.put ?_ ?_ _) | (with_reducible refine Below.next ?_ (by with_reducible assumption)) | (with_reducible exact Nat.le_refl _) | (with_reducible refine Below.size' ?_) | omega))
    exact q2.trans ((((hb3.alloc hsz3 _)).trans hb4).mono q2.size)
end Go.Proofs.Ytnebibflmlgbbaa
