import Derived.Test.YtkboojpkkhiceaaDoorPackHistoryDoes2
import Derived.StillTailTactics
set_option linter.unusedVariables false
set_option linter.unusedSimpArgs false
/- What a table answers, the program's side: a policy put. (printed by gen_hisdo.py) -/
namespace Go.Proofs.YtkboojpkkhiceaaDoor
open Go.ChangeShapes Go.WideShapes Go.ChangeAt Go.RowKit
set_option maxRecDepth 100000

set_option maxHeartbeats 4000000 in
theorem hdo_set (t : List Force) (x : HCmd) (a : Option Addr) (n c : Nat) (w : World) (hn : t.length = n) (hl : n ≤ 1000) (hc : a = none → c = 0) (hnc : n ≤ c) (hr : LRow layFce w a t) (hok : tabOk t = true) (has : asksC x = true) (hkk : x.kind = 1) (hmb : mayB x.rate x.burst = true) (y : Force) (hhit : t[lessK Force.tenant x.tenant t]? = some y) (hye : y.tenant = x.tenant) :
    Calls Tryd.prog 9 #[.slice a n c, x.agg] w (RetFA w (t.set (lessK Force.tenant x.tenant t) ⟨0, x.tenant, x.rate, x.burst⟩) ⟨0, x.rate, x.burst, 0, 0⟩) := by
  subst hn
  have hby : t.length * layFce.bytes ≤ 140737488355328 := by show t.length * 32 ≤ _; omega
  have hlm : t.length ≤ maxLen := le_maxLen (by omega)
  obtain ⟨k, a1, a2, te, ra, bu, a6, a7, a8, a9, a10, a11, ⟨la, ln, lc⟩⟩ := x
  dsimp only at hhit hye hkk ⊢
  have hq1 : (k == 1) = true := by rw [beq_iff_eq]; exact hkk
  clear hkk
  have hmb' : mayB ra bu = true := hmb
  have HMB := Lib.hid hmb'
  clear hmb hmb'
  have HOK := Lib.hid hok
  have hx : 1 ≤ k ∧ k ≤ 3 ∧ 1 ≤ te ∧ te ≤ 16 := of_decide_eq_true has
  have HAS : Hid (asksC ⟨k, a1, a2, te, ra, bu, a6, a7, a8, a9, a10, a11, ⟨la, ln, lc⟩⟩ = true) := has
  clear has
  have hp := tab_parts hok
  have hk0 := lessK_le (key := Force.tenant) te t
  have HBS := Lib.hid (fun (w' : World) (a' : Option Addr) (c' : Nat) (hr : LRow layFce w' a' t) => binSearchIFce t te a' t.length c' 23 #[] (fun f => f.tenant - te) (lessK Force.tenant te t) w' rfl (by omega) hr enter_do1 (fun y hy w'' _ => do1_any y te w'' (hp.1 y hy).1 (hp.1 y hy).2.1 (by omega) (by omega)) hk0
    (fun j h hj => show t[j].tenant - te < 0 by have := lessK_lo (key := Force.tenant) te j h hj; omega) (fun j h hj => show 0 ≤ t[j].tenant - te by have := lessK_hi (key := Force.tenant) te hp.2 j h hj; omega))
  clear hp
  obtain ⟨hkl, hky⟩ := List.getElem?_eq_some_iff.1 hhit
  have HTH : Hid (hitAt (fun f : Force => f.tenant - te) t[lessK Force.tenant te t]? = true) := by show _ = _; rw [hhit]; simp [hitAt, hye]
  have HHIT := Lib.hid hhit
  clear hhit hye
  have HBX : Hid (∀ w', Below ((w.alloc (.cells #[.int .i8 k, .int .i64 a1, .int .i64 a2, .int .i64 te, .int .i64 ra, .int .i64 bu, .int .i64 a6, .int .i64 a7, .int .i64 a8, .int .i64 a9, .int .i64 a10, .bool a11, .slice la ln lc] 26)).alloc (.cells #[.int .i64 0, .int .i64 0, .int .i64 0, .int .i64 0, .int .i64 0] 31)).heap.size ((w.alloc (.cells #[.int .i8 k, .int .i64 a1, .int .i64 a2, .int .i64 te, .int .i64 ra, .int .i64 bu, .int .i64 a6, .int .i64 a7, .int .i64 a8, .int .i64 a9, .int .i64 a10, .bool a11, .slice la ln lc] 26)).alloc (.cells #[.int .i64 0, .int .i64 0, .int .i64 0, .int .i64 0, .int .i64 0] 31)) w' → Box w' w.heap.size [.int .i8 k, .int .i64 a1, .int .i64 a2, .int .i64 te, .int .i64 ra, .int .i64 bu, .int .i64 a6, .int .i64 a7, .int .i64 a8, .int .i64 a9, .int .i64 a10, .bool a11, .slice la ln lc] ∧ Box w' (w.heap.size + 1) [.int .i64 0, .int .i64 0, .int .i64 0, .int .i64 0, .int .i64 0] ∧ w.heap.size + 2 ≤ w'.heap.size) := fun w' hb => ⟨Box.of_alloc (w := w) (mid_alloc' hb), Box.of_alloc1 (w := w) hb, by have := hb.size; simp at this; omega⟩
  clear hok hky HHIT
  generalize lessK Force.tenant te t = k0 at *
  go_enter Tryd.func9, Tryd.ntmps9
  go_wp2_with (first
    | (go_at_call 19; ((with_reducible refine (cloneFce t a _ _ _ rfl hby hlm hc hnc (LRow.below hr (by repeat' (first | (with_reducible exact Below.refl _ _) | (with_reducible assumption) | (with_reducible refine Below.drew ?_) | (with_reducible refine Below.more ?_ _) | (with_reducible refine Below.put ?_ ?_ _) | (with_reducible refine Below.next ?_ (by with_reducible assumption)) | (with_reducible exact Nat.le_refl _) | (with_reducible refine Below.size' ?_) | omega)))).mono ?_); rintro e w3 ⟨a3, c3, rfl, hnear3, hcan3, hown3, hlt3, hb3⟩; have HX3 := Lib.hid (HBX.out w3 hb3).1; have HZ3 := Lib.hid (HBX.out w3 hb3).2.1; have hz3 := (HBX.out w3 hb3).2.2; have HB3 : Hid (Below w.heap.size w w3) := Lib.hid (by repeat' (first | (with_reducible exact Below.refl _ _) | (with_reducible assumption) | (with_reducible refine Below.drew ?_) | (with_reducible refine Below.more ?_ _) | (with_reducible refine Below.put ?_ ?_ _) | (with_reducible refine Below.next ?_ (by with_reducible assumption)) | (with_reducible exact Nat.le_refl _) | (with_reducible refine Below.size' ?_) | omega)); have HR3 := Lib.hid (show LRow layFce w3 a3 t from hcan3.row); have hle3 := hcan3.le; have hno3 := Lib.hid (hcan3.none (by decide)); have HN3 := Lib.hid hnear3; have HC3 := Lib.hid hcan3; have HO3 := Lib.hid hown3; have HL3 := Lib.hid hlt3; have hne : 0 < t.length := (by omega); obtain ⟨g, rfl, hg3, hcm3⟩ := own_head (hown3 hne) (by intro h; have := congrArg List.length h; rw [layFce.length, List.length_nil, Nat.mul_eq_zero] at this; have := layFce.pos; omega); have hm3' := Mine.of_own (L := layFce) (hown3 hne); have hmlt := hm3'.lt (by intro h; rw [h] at hne; simp at hne); have HM3 := Lib.hid hm3'; have hg1 : w.heap.size + 1 < g := (by simp at hg3; omega); clear hm3' hg3 hnear3 hcan3 hown3 hlt3 hb3))
    | (go_at_call 20; ((with_reducible refine (mayt_any t (some ⟨g, 0, none⟩) t.length c3 w3 rfl hlm HR3.out).mono ?_); rw [HOK.out]; rintro e w4 ⟨rfl, hb4⟩; have HX4 := Lib.hid (HX3.out.next (by simp) hb4); have HZ4 := Lib.hid (HZ3.out.next (by simp) hb4); have HR4 := Lib.hid (LRow.below HR3.out hb4); have HB4 := Lib.hid (HB3.out.trans (hb4.mono HB3.out.size)); have hz4 : w.heap.size + 2 ≤ w4.heap.size := Nat.le_trans hz3 hb4.size; have HB34 := Lib.hid hb4; clear hb4 hz3; have k0' := HX4.out.cell (j := 0) rfl; have k3' := HX4.out.cell (j := 3) rfl; have k4' := HX4.out.cell (j := 4) rfl; have k5' := HX4.out.cell (j := 5) rfl))
    | (go_at_call 21; ((with_reducible refine (asks_any ⟨k, a1, a2, te, ra, bu, a6, a7, a8, a9, a10, a11, ⟨la, ln, lc⟩⟩ w.heap.size 0 w4 (HX4.out.cell (j := 0) rfl) (HX4.out.cell (j := 3) rfl)).mono ?_); rw [HAS.out]; rintro e w5 ⟨rfl, rfl⟩))
    | (go_at_call 22; ((with_reducible refine (HBS.out w4 (some ⟨g, 0, none⟩) c3 HR4.out).mono ?_); rw [HTH.out]; rintro e w6 ⟨rfl, hb6⟩; have HX6 := Lib.hid (HX4.out.next (by simp) hb6); have HZ6 := Lib.hid (HZ4.out.next (by simp) hb6); have HR6 := Lib.hid (LRow.below HR4.out hb6); have HB6 := Lib.hid (HB4.out.trans (hb6.mono HB4.out.size)); have hz6 : w.heap.size + 2 ≤ w6.heap.size := Nat.le_trans hz4 hb6.size; have HB36 := Lib.hid (HB34.out.trans (hb6.mono HB34.out.size)); clear hb6 hz4 k0' k3' k4' k5'; have k0' := HX6.out.cell (j := 0) rfl; have k3' := HX6.out.cell (j := 3) rfl; have k4' := HX6.out.cell (j := 4) rfl; have k5' := HX6.out.cell (j := 5) rfl))
    | (go_at_call 24; ((with_reducible refine (may_any ra bu w6).mono ?_); rw [HMB.out]; rintro e w7 ⟨rfl, rfl⟩))
    | (refine wpList_store_box layFce rfl (.tmp 8) (.tmp 51) rfl (⟨0, te, ra, bu⟩ : Force) rfl rfl rfl ?_; intro w8 hf8 ht8 hb8 hs8; have HF8 : Hid (w8.rangeAt w6.heap.size 0 (Force.cells (⟨0, te, ra, bu⟩ : Force))) := hf8; have HX8 := Lib.hid (HX6.out.next (by simp) hb8); have HZ8 := Lib.hid (HZ6.out.next (by simp) hb8); have HR8 := Lib.hid (LRow.below HR6.out hb8); have HB8 := Lib.hid (HB6.out.trans (hb8.mono HB6.out.size)); have hz8 : w.heap.size + 2 ≤ w8.heap.size := Nat.le_trans hz6 hb8.size; have HB38 := Lib.hid (HB36.out.trans (hb8.mono HB36.out.size)); clear hf8 ht8 hb8 hs8 k0' k3' k4' k5'; have k0' := HX8.out.cell (j := 0) rfl; have k3' := HX8.out.cell (j := 3) rfl; have k4' := HX8.out.cell (j := 4) rfl; have k5' := HX8.out.cell (j := 5) rfl)
    | (refine wpList_load_as layFce rfl (.tmp 8) rfl w6.heap.size 0 rfl (⟨0, te, ra, bu⟩ : Force) (⟨0, te, ra, bu⟩ : Force).agg rfl HF8.out ?_)
    | (have hm8 := Lib.hid (HM3.out.below HB38.out hmlt); refine wpList_store_mine layFce rfl (.tmp 56) (.tmp 55) rfl (o := 0) hm8.out k0 hkl (⟨0, te, ra, bu⟩ : Force) (by rw [Nat.zero_add]; rfl) rfl ?_; intro w10 hm10 hb10 hs10; have HM10 := Lib.hid hm10; have HX10 := Lib.hid (HX8.out.below (hb10 g (Nat.le_refl _)) (by omega)); have HZ10 := Lib.hid (HZ8.out.below (hb10 g (Nat.le_refl _)) hg1); have HB10 := Lib.hid (HB8.out.trans (hb10 w.heap.size (by omega))); clear hm10 hb10 k0' k3' k4' k5'; have k0' := HX10.out.cell (j := 0) rfl; have k3' := HX10.out.cell (j := 3) rfl; have k4' := HX10.out.cell (j := 4) rfl; have k5' := HX10.out.cell (j := 5) rfl))
  go_still_tail 7, (by kernel_rfl)
  change wpList _ _ _ _ _ w10.drew
  refine wpList_store_whole layAns rfl (.tmp 5) (.tmp 67) rfl (w.heap.size + 1) ⟨0, ra, bu, 0, 0⟩ [.int .i64 0, .int .i64 0, .int .i64 0, .int .i64 0, .int .i64 0] rfl rfl HZ10.out.drew rfl ?_
  intro w9 hz9 hw9
  have HZ9 := Lib.hid hz9
  have HW9 := Lib.hid hw9
  clear hz9 hw9
  go_wp2_with fail
  (try simp only [Exit.inBlock, Exit.then])
  refine bodyPost_ret (results_ans rfl _ _ (w.heap.size + 1) ⟨0, ra, bu, 0, 0⟩ rfl HZ9.out.range) rfl ?_
  exact ⟨some ⟨g, 0, none⟩, c3, by rw [List.length_set]; rfl, by rw [List.length_set]; exact hle3, (fun h => by cases h), (mine_wrote (w := w10.drew) HM10.out HW9.out (by omega)).row, (fun b o s h => .inl (by cases h; omega)), HB10.out.drew.trans (HW9.out.below _ (by omega))⟩
set_option maxHeartbeats 4000000 in
theorem hdo_insert (t : List Force) (x : HCmd) (a : Option Addr) (n c : Nat) (w : World) (hn : t.length = n) (hl : n ≤ 1000) (hc : a = none → c = 0) (hnc : n ≤ c) (hr : LRow layFce w a t) (hok : tabOk t = true) (has : asksC x = true) (hkk : x.kind = 1) (hmb : mayB x.rate x.burst = true) (hmiss : ∀ y, t[lessK Force.tenant x.tenant t]? = some y → y.tenant ≠ x.tenant) :
    Calls Tryd.prog 9 #[.slice a n c, x.agg] w (RetFA w (t.take (lessK Force.tenant x.tenant t) ++ ⟨0, x.tenant, x.rate, x.burst⟩ :: t.drop (lessK Force.tenant x.tenant t)) ⟨0, x.rate, x.burst, 0, 0⟩) := by
  subst hn
  have hby : t.length * layFce.bytes ≤ 140737488355328 := by show t.length * 32 ≤ _; omega
  have hlm : t.length ≤ maxLen := le_maxLen (by omega)
  obtain ⟨k, a1, a2, te, ra, bu, a6, a7, a8, a9, a10, a11, ⟨la, ln, lc⟩⟩ := x
  dsimp only at hmiss hkk ⊢
  have hq1 : (k == 1) = true := by rw [beq_iff_eq]; exact hkk
  clear hkk
  have hmb' : mayB ra bu = true := hmb
  have HMB := Lib.hid hmb'
  clear hmb hmb'
  have HOK := Lib.hid hok
  have hx : 1 ≤ k ∧ k ≤ 3 ∧ 1 ≤ te ∧ te ≤ 16 := of_decide_eq_true has
  have HAS : Hid (asksC ⟨k, a1, a2, te, ra, bu, a6, a7, a8, a9, a10, a11, ⟨la, ln, lc⟩⟩ = true) := has
  clear has
  have hp := tab_parts hok
  have hk0 := lessK_le (key := Force.tenant) te t
  have HBS := Lib.hid (fun (w' : World) (a' : Option Addr) (c' : Nat) (hr : LRow layFce w' a' t) => binSearchIFce t te a' t.length c' 23 #[] (fun f => f.tenant - te) (lessK Force.tenant te t) w' rfl (by omega) hr enter_do1 (fun y hy w'' _ => do1_any y te w'' (hp.1 y hy).1 (hp.1 y hy).2.1 (by omega) (by omega)) hk0
    (fun j h hj => show t[j].tenant - te < 0 by have := lessK_lo (key := Force.tenant) te j h hj; omega) (fun j h hj => show 0 ≤ t[j].tenant - te by have := lessK_hi (key := Force.tenant) te hp.2 j h hj; omega))
  clear hp
  have HTH : Hid (hitAt (fun f : Force => f.tenant - te) t[lessK Force.tenant te t]? = false) := by
    show _ = _
    cases hh : t[lessK Force.tenant te t]? with
    | none => rfl
    | some y => unfold hitAt; rw [beq_eq_false_iff_ne]; intro h; exact hmiss y hh (by simp only at h; omega)
  have HMISS := Lib.hid hmiss
  clear hmiss
  have HBX : Hid (∀ w', Below ((w.alloc (.cells #[.int .i8 k, .int .i64 a1, .int .i64 a2, .int .i64 te, .int .i64 ra, .int .i64 bu, .int .i64 a6, .int .i64 a7, .int .i64 a8, .int .i64 a9, .int .i64 a10, .bool a11, .slice la ln lc] 26)).alloc (.cells #[.int .i64 0, .int .i64 0, .int .i64 0, .int .i64 0, .int .i64 0] 31)).heap.size ((w.alloc (.cells #[.int .i8 k, .int .i64 a1, .int .i64 a2, .int .i64 te, .int .i64 ra, .int .i64 bu, .int .i64 a6, .int .i64 a7, .int .i64 a8, .int .i64 a9, .int .i64 a10, .bool a11, .slice la ln lc] 26)).alloc (.cells #[.int .i64 0, .int .i64 0, .int .i64 0, .int .i64 0, .int .i64 0] 31)) w' → Box w' w.heap.size [.int .i8 k, .int .i64 a1, .int .i64 a2, .int .i64 te, .int .i64 ra, .int .i64 bu, .int .i64 a6, .int .i64 a7, .int .i64 a8, .int .i64 a9, .int .i64 a10, .bool a11, .slice la ln lc] ∧ Box w' (w.heap.size + 1) [.int .i64 0, .int .i64 0, .int .i64 0, .int .i64 0, .int .i64 0] ∧ w.heap.size + 2 ≤ w'.heap.size) := fun w' hb => ⟨Box.of_alloc (w := w) (mid_alloc' hb), Box.of_alloc1 (w := w) hb, by have := hb.size; simp at this; omega⟩
  clear hok HMISS
  generalize lessK Force.tenant te t = k0 at *
  have HNEW : Hid (∀ w3 : World, (w3.alloc (.cells #[.int .i64 0, .int .i64 te, .int .i64 ra, .int .i64 bu] 49)).heap[w3.heap.size]? = some (.cells (layFce.cells ⟨0, te, ra, bu⟩).toArray 49 (0, 0))) := fun w3 => heap_alloc_new w3 _
  have hby1 : (t.length + 1) * layFce.bytes ≤ 140737488355328 := by show (t.length + 1) * 32 ≤ _; omega
  go_enter Tryd.func9, Tryd.ntmps9
  go_wp2_with (first
    | (go_at_call 19; ((with_reducible refine (cloneFce t a _ _ _ rfl hby hlm hc hnc (LRow.below hr (by repeat' (first | (with_reducible exact Below.refl _ _) | (with_reducible assumption) | (with_reducible refine Below.drew ?_) | (with_reducible refine Below.more ?_ _) | (with_reducible refine Below.put ?_ ?_ _) | (with_reducible refine Below.next ?_ (by with_reducible assumption)) | (with_reducible exact Nat.le_refl _) | (with_reducible refine Below.size' ?_) | omega)))).mono ?_); rintro e w3 ⟨a3, c3, rfl, hnear3, hcan3, hown3, hlt3, hb3⟩; have HX3 := Lib.hid (HBX.out w3 hb3).1; have HZ3 := Lib.hid (HBX.out w3 hb3).2.1; have hz3 := (HBX.out w3 hb3).2.2; have HB3 : Hid (Below w.heap.size w w3) := Lib.hid (by repeat' (first | (with_reducible exact Below.refl _ _) | (with_reducible assumption) | (with_reducible refine Below.drew ?_) | (with_reducible refine Below.more ?_ _) | (with_reducible refine Below.put ?_ ?_ _) | (with_reducible refine Below.next ?_ (by with_reducible assumption)) | (with_reducible exact Nat.le_refl _) | (with_reducible refine Below.size' ?_) | omega)); have HR3 := Lib.hid (show LRow layFce w3 a3 t from hcan3.row); have hle3 := hcan3.le; have hno3 := Lib.hid (hcan3.none (by decide)); have HN3 := Lib.hid hnear3; have HC3 := Lib.hid hcan3; have HO3 := Lib.hid hown3; have HL3 := Lib.hid hlt3; clear hnear3 hcan3 hown3 hlt3 hb3))
    | (go_at_call 20; ((with_reducible refine (mayt_any t a3 t.length c3 w3 rfl hlm HR3.out).mono ?_); rw [HOK.out]; rintro e w4 ⟨rfl, hb4⟩; have HX4 := Lib.hid (HX3.out.next (by simp) hb4); have HZ4 := Lib.hid (HZ3.out.next (by simp) hb4); have HR4 := Lib.hid (LRow.below HR3.out hb4); have HB4 := Lib.hid (HB3.out.trans (hb4.mono HB3.out.size)); have hz4 : w.heap.size + 2 ≤ w4.heap.size := Nat.le_trans hz3 hb4.size; have HB34 := Lib.hid hb4; clear hb4 hz3; have k0' := HX4.out.cell (j := 0) rfl; have k3' := HX4.out.cell (j := 3) rfl; have k4' := HX4.out.cell (j := 4) rfl; have k5' := HX4.out.cell (j := 5) rfl))
    | (go_at_call 21; ((with_reducible refine (asks_any ⟨k, a1, a2, te, ra, bu, a6, a7, a8, a9, a10, a11, ⟨la, ln, lc⟩⟩ w.heap.size 0 w4 (HX4.out.cell (j := 0) rfl) (HX4.out.cell (j := 3) rfl)).mono ?_); rw [HAS.out]; rintro e w5 ⟨rfl, rfl⟩))
    | (go_at_call 22; ((with_reducible refine (HBS.out w4 a3 c3 HR4.out).mono ?_); rw [HTH.out]; rintro e w6 ⟨rfl, hb6⟩; have HX6 := Lib.hid (HX4.out.next (by simp) hb6); have HZ6 := Lib.hid (HZ4.out.next (by simp) hb6); have HR6 := Lib.hid (LRow.below HR4.out hb6); have HB6 := Lib.hid (HB4.out.trans (hb6.mono HB4.out.size)); have hz6 : w.heap.size + 2 ≤ w6.heap.size := Nat.le_trans hz4 hb6.size; have HB36 := Lib.hid (HB34.out.trans (hb6.mono HB34.out.size)); clear hb6 hz4 k0' k3' k4' k5'; have k0' := HX6.out.cell (j := 0) rfl; have k3' := HX6.out.cell (j := 3) rfl; have k4' := HX6.out.cell (j := 4) rfl; have k5' := HX6.out.cell (j := 5) rfl))
    | (go_at_call 24; ((with_reducible refine (may_any ra bu w6).mono ?_); rw [HMB.out]; rintro e w7 ⟨rfl, rfl⟩))
    | (refine wpList_store_box layFce rfl (.tmp 8) (.tmp 51) rfl (⟨0, te, ra, bu⟩ : Force) rfl rfl rfl ?_; intro w8 hf8 ht8 hb8 hs8; have HF8 : Hid (w8.rangeAt w6.heap.size 0 (Force.cells (⟨0, te, ra, bu⟩ : Force))) := hf8; have HX8 := Lib.hid (HX6.out.next (by simp) hb8); have HZ8 := Lib.hid (HZ6.out.next (by simp) hb8); have HR8 := Lib.hid (LRow.below HR6.out hb8); have HB8 := Lib.hid (HB6.out.trans (hb8.mono HB6.out.size)); have hz8 : w.heap.size + 2 ≤ w8.heap.size := Nat.le_trans hz6 hb8.size; have HB38 := Lib.hid (HB36.out.trans (hb8.mono HB36.out.size)); clear hf8 ht8 hb8 hs8 k0' k3' k4' k5'; have k0' := HX8.out.cell (j := 0) rfl; have k3' := HX8.out.cell (j := 3) rfl; have k4' := HX8.out.cell (j := 4) rfl; have k5' := HX8.out.cell (j := 5) rfl)
    | (refine wpList_load_as layFce rfl (.tmp 8) rfl w6.heap.size 0 rfl (⟨0, te, ra, bu⟩ : Force) (⟨0, te, ra, bu⟩ : Force).agg rfl HF8.out ?_)
    | (go_at_call 25; ((with_reducible refine (insertFce t (⟨0, te, ra, bu⟩ : Force) k0 t.length c3 a3 w8.heap.size 49 ((w.alloc (.cells #[.int .i8 k, .int .i64 a1, .int .i64 a2, .int .i64 te, .int .i64 ra, .int .i64 bu, .int .i64 a6, .int .i64 a7, .int .i64 a8, .int .i64 a9, .int .i64 a10, .bool a11, .slice la ln lc] 26)).alloc (.cells #[.int .i64 0, .int .i64 0, .int .i64 0, .int .i64 0, .int .i64 0] 31)).heap.size _ rfl hk0 ((HC3.out.next' HB38.out).alloc _) (fun h => (own_nextF (HO3.out h) HB38.out).alloc _) (HNEW.out w8) (fun b o s hab => Nat.ne_of_gt (Nat.lt_of_lt_of_le (HL3.out b o s hab) HB38.out.size)) hby1 (by simp; omega)).mono ?_); rintro e w10 ⟨a10, c10, rfl, hown10, hb10⟩; have HX10 := Lib.hid (HX8.out.below ((Below.refl w8.heap.size w8).alloc (Nat.le_refl _) _ |>.mono (show (w.heap.size + 2) ≤ _ by omega) |>.trans (hb10.mono (by simp))) (by omega)); have HZ10 := Lib.hid (HZ8.out.below ((Below.refl w8.heap.size w8).alloc (Nat.le_refl _) _ |>.mono (show (w.heap.size + 2) ≤ _ by omega) |>.trans (hb10.mono (by simp))) (by omega)); have HB10 := Lib.hid (HB8.out.trans (((Below.refl w8.heap.size w8).alloc (Nat.le_refl _) _ |>.mono (show w.heap.size ≤ _ by omega) |>.trans (hb10.mono (by simp; omega))))); have HO10 := Lib.hid hown10; clear hown10 hb10 k0' k3' k4' k5'; have k0' := HX10.out.cell (j := 0) rfl; have k3' := HX10.out.cell (j := 3) rfl; have k4' := HX10.out.cell (j := 4) rfl; have k5' := HX10.out.cell (j := 5) rfl)))
  go_still_tail 7, (by kernel_rfl)
  change wpList _ _ _ _ _ w10.drew
  refine wpList_store_whole layAns rfl (.tmp 5) (.tmp 67) rfl (w.heap.size + 1) ⟨0, ra, bu, 0, 0⟩ [.int .i64 0, .int .i64 0, .int .i64 0, .int .i64 0, .int .i64 0] rfl rfl HZ10.out.drew rfl ?_
  intro w9 hz9 hw9
  have HZ9 := Lib.hid hz9
  have HW9 := Lib.hid hw9
  clear hz9 hw9
  go_wp2_with fail
  (try simp only [Exit.inBlock, Exit.then])
  refine bodyPost_ret (results_ans rfl _ _ (w.heap.size + 1) ⟨0, ra, bu, 0, 0⟩ rfl HZ9.out.range) rfl ?_
  obtain ⟨a', c', hv, h1, h2, h3⟩ := own_slice HO10.out
  simp only [Value.slice.injEq] at hv
  obtain ⟨rfl, _, rfl⟩ := hv
  have hlen : (t.take k0 ++ (⟨0, te, ra, bu⟩ : Force) :: t.drop k0).length = t.length + 1 := by simp; omega
  exact ⟨a10, c10, by rw [hlen]; rfl, by rw [hlen]; exact h1, h3, row_wrote (w := w10.drew) (own_row HO10.out) HW9.out (Near.own HO10.out (Nat.le_refl _)) (by simp), near_le (Near.own HO10.out (Nat.le_refl _)) (by simp; omega), HB10.out.drew.trans (HW9.out.below _ (by omega))⟩
end Go.Proofs.YtkboojpkkhiceaaDoor
