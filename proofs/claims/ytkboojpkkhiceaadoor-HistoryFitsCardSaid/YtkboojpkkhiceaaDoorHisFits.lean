import Derived.Test.YtkboojpkkhiceaaDoorHisFind
import Derived.Test.YtkboojpkkhiceaaDoorHisCheck
import Derived.Laws.EntriesVeiled
set_option linter.unusedVariables false
set_option linter.unusedSimpArgs false
/- The search whole; Fits, the program's side. -/
namespace Go.Proofs.YtkboojpkkhiceaaDoor
open Go.ChangeShapes Go.WideShapes Go.ChangeAt Go.RowKit Go.Maps
set_option maxRecDepth 100000

theorem find_any (l : List HCall) (al : Option Addr) (cl E B gl gs go gf mb : Nat) (G : Geo E B gl gs go gf mb) (hal : ∀ b o s, al = some ⟨b, o, s⟩ → b < E) (hl : l.length ≤ 12) : ∀ (u : Nat)
    (d : Nat) (t : List Force) (a : Option Addr) (c : Nat) (w : World) (os : List Nat) (ao : Option Addr) (co n : Nat) (seen : Nat × List UInt8 → Bool), d < 65536 → tabOk t = true → (a = none → c = 0) → t.length ≤ c → LRow layFce w a t → (t = [] ∨ Away go mb ao a) →
      Env l al cl B gl gs go gf mb w os ao co n seen → SeenOk l seen → Lib.TabBelow Tryd.prog E w "internal/strconv.uint64pow10" .u64 Lib.pow10Tab → undone l d ≤ u → os.length + u ≤ 1000 → n + roomN u ≤ 9000000000000000000 → E ≤ w.heap.size →
      Calls Tryd.prog 33 #[.int .u16 d, .slice a t.length c, .pointer (some ⟨gl, 0, none⟩), .pointer (some ⟨gs, 0, none⟩), .pointer (some ⟨go, 0, none⟩), .pointer (some ⟨gf, 0, none⟩)] w (RetFind l al cl B gl gs go gf mb u os ao n d t w) := by
  intro u
  induction u with
  | zero =>
    intro d t a c w os ao co n seen hd hok hc hnc hr ha he hs hT hu hos hn hE
    exact find_whole l al cl E B gl gs go gf mb hl 0 d t a c w os ao co n seen hd hok hc hnc hr ha he hs hT (find_none (by omega))
  | succ u ih =>
    intro d t a c w os ao co n seen hd hok hc hnc hr ha he hs hT hu hos hn hE
    cases hw : wholeL l d with
    | true => exact find_whole l al cl E B gl gs go gf mb hl (u + 1) d t a c w os ao co n seen hd hok hc hnc hr ha he hs hT hw
    | false =>
      cases hse : seen (d, keyB t) with
      | true => exact find_seen l al cl E B gl gs go gf mb G hal hl (u + 1) d t a c w os ao co n seen hd hok hc hnc hr ha he hs hT hw hse
      | false => exact find_go l al cl E B gl gs go gf mb G hal hl u ih d t a c w os ao co n seen hd hok hc hnc hr ha he hs hT hu hos hn hE hw hse
/-- Whether there is an order, and the first one. -/
def fitsF (l : List HCall) : List Nat × Bool × Int := if chkL l = true then (match S l 0 [] with | some r => (r, true, 0) | none => ([], false, 0)) else ([], false, 2)
theorem fits_bad {l : List HCall} (h : chkL l = false) : fitsF l = ([], false, 2) := by unfold fitsF; rw [if_neg (by rw [h]; simp)]
theorem fits_none {l : List HCall} (h : chkL l = true) (h2 : S l 0 [] = none) : fitsF l = ([], false, 0) := by unfold fitsF; rw [if_pos h, h2]
theorem fits_some {l : List HCall} {r : List Nat} (h : chkL l = true) (h2 : S l 0 [] = some r) : fitsF l = (r, true, 0) := by unfold fitsF; rw [if_pos h, h2]
def RetFits (l : List HCall) (w : World) (e : Ending) (w' : World) : Prop :=
  ∃ a c, e = .returned (.tuple #[.slice a (fitsF l).1.length c, .bool (fitsF l).2.1, .int .i64 (fitsF l).2.2]) ∧ Row w' a (nums (fitsF l).1) ∧ (fitsF l).1.length ≤ c ∧ Below w.heap.size w w'
theorem env_start (l : List HCall) (al : Option Addr) (cl : Nat) (w w2 : World) (hr : LRow layCal w al l) (hb : Below ((w.alloc (.cells #[.slice al l.length cl] 27)).alloc (.cells #[.slice none 0 0] 24)).heap.size ((w.alloc (.cells #[.slice al l.length cl] 27)).alloc (.cells #[.slice none 0 0] 24)) w2) :
    Env l al cl (w2.heap.size + 1 + 1 + 1) w.heap.size (w2.heap.size + 1) (w.heap.size + 1) (w2.heap.size + 1 + 1) w2.heap.size (((w2.alloc (.map #[] 0)).alloc (.cells #[.map (some w2.heap.size)] 62)).alloc (.cells #[findV w.heap.size (w2.heap.size + 1) (w.heap.size + 1) (w2.heap.size + 1 + 1)] 63)) [] none 0 0 (fun _ => false) ∧ Below w.heap.size w (((w2.alloc (.map #[] 0)).alloc (.cells #[.map (some w2.heap.size)] 62)).alloc (.cells #[findV w.heap.size (w2.heap.size + 1) (w.heap.size + 1) (w2.heap.size + 1 + 1)] 63)) ∧ w.heap.size + 2 ≤ w2.heap.size := by
  have hs : w.heap.size + 2 ≤ w2.heap.size := by have := hb.size; simp at this; omega
  have h2 : Below w2.heap.size w2 (((w2.alloc (.map #[] 0)).alloc (.cells #[.map (some w2.heap.size)] 62)).alloc (.cells #[findV w.heap.size (w2.heap.size + 1) (w.heap.size + 1) (w2.heap.size + 1 + 1)] 63)) := (((Below.refl _ _).alloc (Nat.le_refl _) _).alloc (by simp) _).alloc (by simp; omega) _
  have h0 : Below w.heap.size w w2 := mid_alloc' (mid_alloc' hb)
  have b1 : Box w2 w.heap.size [.slice al l.length cl] := Box.of_alloc (w := w) (mid_alloc' hb)
  have b2 : Box w2 (w.heap.size + 1) [.slice none 0 0] := Box.of_alloc1 (w := w) hb
  refine ⟨⟨b1.next (by simp) h2, Row.below (Row.below hr h0) h2, ?_, ?_, b2.next (by simp) h2, World.ownsRow_nil _ _ _ _, ?_, by simp⟩, h0.trans (h2.mono h0.size), hs⟩
  · have := Box.of_alloc1 (w := w2) (o := .map #[] 0) (cs := [.map (some w2.heap.size)]) (t := 62) (Below.refl _ _)
    exact this.next (by simp) ((Below.refl _ _).alloc (Nat.le_refl _) _)
  · exact (MapB.made (K := keySpot) (e := 4) w2).block (((((Below.refl (w2.heap.size + 1) (w2.alloc (.map #[] 0))).alloc (by simp) _).alloc (by simp) _).block w2.heap.size (Nat.lt_succ_self _)))
  · exact Box.of_alloc2 (w := w2) (Below.refl _ _)
theorem geo_start {E s : Nat} (h : E + 2 ≤ s) : Geo E (s + 1 + 1 + 1) E (s + 1) (E + 1) (s + 1 + 1) s :=
  ⟨Nat.le_refl _, by omega, by omega, by omega, by omega, by omega, by omega, by omega, by omega, by omega, by omega, by omega, by omega, by omega, by omega⟩
set_option maxHeartbeats 4000000 in
theorem hfits_bad (l : List HCall) (al : Option Addr) (cl : Nat) (w : World) (hl : l.length ≤ 1000) (hr : LRow layCal w al l) (hk : chkL l = false) :
    Calls Tryd.prog 14 #[.slice al l.length cl] w (RetFits l w) := by
  have HF := Lib.hid (fits_bad hk)
  have HC := Lib.hid (fun w' (hb : Below w.heap.size w w') => hcheck_any l al l.length cl w' rfl (le_maxLen (by omega)) (LRow.below hr hb))
  have HKK := Lib.hid hk
  have HBX : Hid (∀ w2, Below ((w.alloc (.cells #[.slice al l.length cl] 27)).alloc (.cells #[.slice none 0 0] 24)).heap.size ((w.alloc (.cells #[.slice al l.length cl] 27)).alloc (.cells #[.slice none 0 0] 24)) w2 → Box w2 w.heap.size [.slice al l.length cl] ∧ Box w2 (w.heap.size + 1) [.slice none 0 0]) := fun w2 hb => ⟨Box.of_alloc (w := w) (mid_alloc' hb), Box.of_alloc1 (w := w) hb⟩
  clear hk hr
  go_enter Tryd.func14, Tryd.ntmps14
  go_wp2_with (first
    | (go_at_call 12; ((with_reducible refine (HC.out _ (by repeat' (first | (with_reducible exact Below.refl _ _) | (with_reducible assumption) | (with_reducible refine Below.drew ?_) | (with_reducible refine Below.more ?_ _) | (with_reducible refine Below.put ?_ ?_ _) | (with_reducible refine Below.next ?_ (by with_reducible assumption)) | (with_reducible exact Nat.le_refl _) | (with_reducible refine Below.size' ?_) | omega))).mono ?_); rw [HKK.out]; rintro e w2 ⟨rfl, hb2⟩; have HB2 : Hid (Below w.heap.size w w2) := Lib.hid (by repeat' (first | (with_reducible exact Below.refl _ _) | (with_reducible assumption) | (with_reducible refine Below.drew ?_) | (with_reducible refine Below.more ?_ _) | (with_reducible refine Below.put ?_ ?_ _) | (with_reducible refine Below.next ?_ (by with_reducible assumption)) | (with_reducible exact Nat.le_refl _) | (with_reducible refine Below.size' ?_) | omega)); have HO2 := Lib.hid (HBX.out w2 hb2).2; clear hb2))
    | (refine wpList_store_field rfl (.tmp 2) (.const (.slice none 0 0)) rfl (by kernel_rfl) (w.heap.size + 1) 0 [.slice none 0 0] (.slice none 0 0) rfl rfl rfl rfl HO2.out (by simp) ?_; intro w9 hb9 hw9; have HO9 := Lib.hid hb9; have HW9 := Lib.hid hw9; clear hb9 hw9))
  (try simp only [Exit.inBlock, Exit.then])
  have c0 := HO9.out.cell (j := 0) rfl
  refine bodyPost_ret (v := .tuple #[.slice none 0 0, .bool false, .int .i64 2]) (by simp [results, Tryd.results14, go_sem, c0]) rfl ?_
  rw [RetFits, HF.out]
  exact ⟨none, 0, rfl, .inl rfl, Nat.le_refl _, HB2.out.trans (HW9.out.below _ (by omega))⟩
set_option maxHeartbeats 8000000 in
theorem hfits_none (l : List HCall) (al : Option Addr) (cl : Nat) (w : World) (hr : LRow layCal w al l) (hal : l = [] ∨ ∀ b o s, al = some ⟨b, o, s⟩ → b < w.heap.size) (hk : chkL l = true) (htab : Lib.TabIs Tryd.prog w "internal/strconv.uint64pow10" .u64 Lib.pow10Tab) (hS : S l 0 [] = none) :
    Calls Tryd.prog 14 #[.slice al l.length cl] w (RetFits l w) := by
  have hl12 : l.length ≤ 12 := by unfold chkL at hk; simp only [Bool.and_eq_true, decide_eq_true_eq] at hk; exact hk.1
  have HF := Lib.hid (fits_none hk hS)
  have HSV := Lib.hid hS
  clear hS
  have HC := Lib.hid (fun w' (hb : Below w.heap.size w w') => hcheck_any l al l.length cl w' rfl (le_maxLen (by omega)) (LRow.below hr hb))
  have HKK := Lib.hid hk
  have hmm := @run_makeMap Tryd.prog
  have hcf := enter_find
  have hmf : ∀ (fn : Fn) (first cap : Array Value) (w : World), (Instr.makeFunc fn first cap).run Tryd.prog w = .ok (.func fn first cap) w := fun _ _ _ _ => rfl
  have HFIND : Hid (∀ w2, Below ((w.alloc (.cells #[.slice al l.length cl] 27)).alloc (.cells #[.slice none 0 0] 24)).heap.size ((w.alloc (.cells #[.slice al l.length cl] 27)).alloc (.cells #[.slice none 0 0] 24)) w2 → Calls Tryd.prog 33 #[.int .u16 0, .slice none 0 0, .pointer (some ⟨w.heap.size, 0, none⟩), .pointer (some ⟨w2.heap.size + 1, 0, none⟩), .pointer (some ⟨w.heap.size + 1, 0, none⟩), .pointer (some ⟨w2.heap.size + 1 + 1, 0, none⟩)] (((w2.alloc (.map #[] 0)).alloc (.cells #[.map (some w2.heap.size)] 62)).alloc (.cells #[.func (.func 33) #[] #[.pointer (some ⟨w.heap.size, 0, none⟩), .pointer (some ⟨w2.heap.size + 1, 0, none⟩), .pointer (some ⟨w.heap.size + 1, 0, none⟩), .pointer (some ⟨w2.heap.size + 1 + 1, 0, none⟩)]] 63)) (RetFind l al cl (w2.heap.size + 1 + 1 + 1) w.heap.size (w2.heap.size + 1) (w.heap.size + 1) (w2.heap.size + 1 + 1) w2.heap.size 12 [] none 0 0 [] (((w2.alloc (.map #[] 0)).alloc (.cells #[.map (some w2.heap.size)] 62)).alloc (.cells #[.func (.func 33) #[] #[.pointer (some ⟨w.heap.size, 0, none⟩), .pointer (some ⟨w2.heap.size + 1, 0, none⟩), .pointer (some ⟨w.heap.size + 1, 0, none⟩), .pointer (some ⟨w2.heap.size + 1 + 1, 0, none⟩)]] 63)))) := fun w2 hb => by
    obtain ⟨he, hbw, hs⟩ := env_start l al cl w w2 hr hb
    have hT := (Lib.tabBelow_of_tabIs htab).on hbw
    rcases hal with h0 | hal
    · refine find_whole l al cl w.heap.size _ w.heap.size (w2.heap.size + 1) (w.heap.size + 1) (w2.heap.size + 1 + 1) w2.heap.size hl12 12 0 [] none 0 _ [] none 0 0 _ (by decide) rfl (fun _ => rfl) (Nat.le_refl _) (.inl rfl) (.inl rfl) he (SeenOk.none l) hT (by subst h0; rfl)
    · exact find_any l al cl w.heap.size _ w.heap.size (w2.heap.size + 1) (w.heap.size + 1) (w2.heap.size + 1 + 1) w2.heap.size (geo_start hs) hal hl12 12 0 [] none 0 _ [] none 0 0 _ (by decide) rfl (fun _ => rfl) (Nat.le_refl _) (.inl rfl) (.inl rfl) he (SeenOk.none l) hT (Nat.le_trans (undone_le l 0) hl12) (by decide) (by decide) hbw.size
  have HGEO := Lib.hid (fun (w2 : World) (hb : Below ((w.alloc (.cells #[.slice al l.length cl] 27)).alloc (.cells #[.slice none 0 0] 24)).heap.size ((w.alloc (.cells #[.slice al l.length cl] 27)).alloc (.cells #[.slice none 0 0] 24)) w2) => (env_start l al cl w w2 hr hb).2)
  clear hk hr hal htab
  go_enter Tryd.func14, Tryd.ntmps14
  go_wp2_with (first
    | (go_at_call 12; ((with_reducible refine (HC.out _ (by repeat' (first | (with_reducible exact Below.refl _ _) | (with_reducible assumption) | (with_reducible refine Below.drew ?_) | (with_reducible refine Below.more ?_ _) | (with_reducible refine Below.put ?_ ?_ _) | (with_reducible refine Below.next ?_ (by with_reducible assumption)) | (with_reducible exact Nat.le_refl _) | (with_reducible refine Below.size' ?_) | omega))).mono ?_); rw [HKK.out]; rintro e w2 ⟨rfl, hb2⟩; have HGG := Lib.hid (HGEO.out w2 hb2); have HFF := Lib.hid (HFIND.out w2 hb2); clear hb2))
    | (go_at_call 33; ((with_reducible refine HFF.out.mono ?_); intro e w7 hret; rw [RetFind, HSV.out] at hret; obtain ⟨a7, c7, n7, s7, rfl, he7, -, -, hf7, -⟩ := hret; have HE7 := Lib.hid he7; have HR7 := Lib.hid (Fr.below hf7 (geo_start HGG.out.2) (fun _ _ _ h => by cases h) HGG.out.1.size); have HO7 := Lib.hid he7.bo; have e7 := he7.bo.cell (j := 0) rfl; clear he7 hf7))
    | (refine wpList_store_field rfl (.tmp 2) (.const (.slice none 0 0)) rfl (by kernel_rfl) (w.heap.size + 1) 0 [.slice a7 ([] ++ (none : Option (List Nat)).getD []).length c7] (.slice none 0 0) rfl rfl rfl rfl HO7.out (by simp) ?_; intro w9 hb9 hw9; have HO9 := Lib.hid hb9; have HW9 := Lib.hid hw9; clear hb9 hw9 e7))
  (try simp only [Exit.inBlock, Exit.then])
  have c0 := HO9.out.cell (j := 0) rfl
  refine bodyPost_ret (v := .tuple #[.slice none 0 0, .bool false, .int .i64 0]) (by simp [results, Tryd.results14, go_sem, c0]) rfl ?_
  rw [RetFits, HF.out]
  exact ⟨none, 0, rfl, .inl rfl, Nat.le_refl _, (HGG.out.1.trans HR7.out).trans (HW9.out.below _ (by omega))⟩
set_option maxHeartbeats 8000000 in
theorem hfits_some (l : List HCall) (al : Option Addr) (cl : Nat) (w : World) (hr : LRow layCal w al l) (hal : l = [] ∨ ∀ b o s, al = some ⟨b, o, s⟩ → b < w.heap.size) (hk : chkL l = true) (htab : Lib.TabIs Tryd.prog w "internal/strconv.uint64pow10" .u64 Lib.pow10Tab) (r : List Nat) (hS : S l 0 [] = some r) :
    Calls Tryd.prog 14 #[.slice al l.length cl] w (RetFits l w) := by
  have hl12 : l.length ≤ 12 := by unfold chkL at hk; simp only [Bool.and_eq_true, decide_eq_true_eq] at hk; exact hk.1
  have HF := Lib.hid (fits_some hk hS)
  have HSV := Lib.hid hS
  clear hS
  have HC := Lib.hid (fun w' (hb : Below w.heap.size w w') => hcheck_any l al l.length cl w' rfl (le_maxLen (by omega)) (LRow.below hr hb))
  have HKK := Lib.hid hk
  have hmm := @run_makeMap Tryd.prog
  have hcf := enter_find
  have hmf : ∀ (fn : Fn) (first cap : Array Value) (w : World), (Instr.makeFunc fn first cap).run Tryd.prog w = .ok (.func fn first cap) w := fun _ _ _ _ => rfl
  have HFIND : Hid (∀ w2, Below ((w.alloc (.cells #[.slice al l.length cl] 27)).alloc (.cells #[.slice none 0 0] 24)).heap.size ((w.alloc (.cells #[.slice al l.length cl] 27)).alloc (.cells #[.slice none 0 0] 24)) w2 → Calls Tryd.prog 33 #[.int .u16 0, .slice none 0 0, .pointer (some ⟨w.heap.size, 0, none⟩), .pointer (some ⟨w2.heap.size + 1, 0, none⟩), .pointer (some ⟨w.heap.size + 1, 0, none⟩), .pointer (some ⟨w2.heap.size + 1 + 1, 0, none⟩)] (((w2.alloc (.map #[] 0)).alloc (.cells #[.map (some w2.heap.size)] 62)).alloc (.cells #[.func (.func 33) #[] #[.pointer (some ⟨w.heap.size, 0, none⟩), .pointer (some ⟨w2.heap.size + 1, 0, none⟩), .pointer (some ⟨w.heap.size + 1, 0, none⟩), .pointer (some ⟨w2.heap.size + 1 + 1, 0, none⟩)]] 63)) (RetFind l al cl (w2.heap.size + 1 + 1 + 1) w.heap.size (w2.heap.size + 1) (w.heap.size + 1) (w2.heap.size + 1 + 1) w2.heap.size 12 [] none 0 0 [] (((w2.alloc (.map #[] 0)).alloc (.cells #[.map (some w2.heap.size)] 62)).alloc (.cells #[.func (.func 33) #[] #[.pointer (some ⟨w.heap.size, 0, none⟩), .pointer (some ⟨w2.heap.size + 1, 0, none⟩), .pointer (some ⟨w.heap.size + 1, 0, none⟩), .pointer (some ⟨w2.heap.size + 1 + 1, 0, none⟩)]] 63)))) := fun w2 hb => by
    obtain ⟨he, hbw, hs⟩ := env_start l al cl w w2 hr hb
    have hT := (Lib.tabBelow_of_tabIs htab).on hbw
    rcases hal with h0 | hal
    · refine find_whole l al cl w.heap.size _ w.heap.size (w2.heap.size + 1) (w.heap.size + 1) (w2.heap.size + 1 + 1) w2.heap.size hl12 12 0 [] none 0 _ [] none 0 0 _ (by decide) rfl (fun _ => rfl) (Nat.le_refl _) (.inl rfl) (.inl rfl) he (SeenOk.none l) hT (by subst h0; rfl)
    · exact find_any l al cl w.heap.size _ w.heap.size (w2.heap.size + 1) (w.heap.size + 1) (w2.heap.size + 1 + 1) w2.heap.size (geo_start hs) hal hl12 12 0 [] none 0 _ [] none 0 0 _ (by decide) rfl (fun _ => rfl) (Nat.le_refl _) (.inl rfl) (.inl rfl) he (SeenOk.none l) hT (Nat.le_trans (undone_le l 0) hl12) (by decide) (by decide) hbw.size
  have HGEO := Lib.hid (fun (w2 : World) (hb : Below ((w.alloc (.cells #[.slice al l.length cl] 27)).alloc (.cells #[.slice none 0 0] 24)).heap.size ((w.alloc (.cells #[.slice al l.length cl] 27)).alloc (.cells #[.slice none 0 0] 24)) w2) => (env_start l al cl w w2 hr hb).2)
  clear hk hr hal htab
  go_enter Tryd.func14, Tryd.ntmps14
  go_wp2_with (first
    | (go_at_call 12; ((with_reducible refine (HC.out _ (by repeat' (first | (with_reducible exact Below.refl _ _) | (with_reducible assumption) | (with_reducible refine Below.drew ?_) | (with_reducible refine Below.more ?_ _) | (with_reducible refine Below.put ?_ ?_ _) | (with_reducible refine Below.next ?_ (by with_reducible assumption)) | (with_reducible exact Nat.le_refl _) | (with_reducible refine Below.size' ?_) | omega))).mono ?_); rw [HKK.out]; rintro e w2 ⟨rfl, hb2⟩; have HGG := Lib.hid (HGEO.out w2 hb2); have HFF := Lib.hid (HFIND.out w2 hb2); clear hb2))
    | (go_at_call 33; ((with_reducible refine HFF.out.mono ?_); intro e w7 hret; rw [RetFind, HSV.out] at hret; obtain ⟨a7, c7, n7, s7, rfl, he7, -, -, hf7, -⟩ := hret; have HE7 := Lib.hid he7; have HR7 := Lib.hid (Fr.below hf7 (geo_start HGG.out.2) (fun _ _ _ h => by cases h) HGG.out.1.size); have HO7 := Lib.hid he7.bo; have e7 := he7.bo.cell (j := 0) rfl; clear he7 hf7))
    | (refine wpList_store_field rfl (.tmp 2) (.tmp 15) rfl (by kernel_rfl) (w.heap.size + 1) 0 [.slice a7 r.length c7] (.slice a7 r.length c7) rfl rfl rfl rfl HO7.out (by simp) ?_; intro w9 hb9 hw9; have HO9 := Lib.hid hb9; have HW9 := Lib.hid hw9; clear hb9 hw9 e7))
  (try simp only [Exit.inBlock, Exit.then])
  have c0 := HO9.out.cell (j := 0) rfl
  refine bodyPost_ret (v := .tuple #[.slice a7 r.length c7, .bool true, .int .i64 0]) (by simp [results, Tryd.results14, go_sem, c0]) rfl ?_
  rw [RetFits, HF.out]
  have ho := HE7.out.ow
  refine ⟨a7, c7, rfl, ?_, ?_, (HGG.out.1.trans HR7.out).trans (HW9.out.below _ (by omega))⟩
  · have ho2 := own_keep (w' := w9) ho (fun j hj _ => HW9.out.keep j (by have := HGG.out.2; omega))
    exact own_row ho2
  · obtain ⟨a', c', hv, h1, -⟩ := own_slice ho
    simp only [Value.slice.injEq] at hv
    rw [hv.2.2]; exact h1
theorem hfits_any (l : List HCall) (al : Option Addr) (n cl : Nat) (w : World) (hn : l.length = n) (hl : n ≤ 1000) (hr : LRow layCal w al l) (hal : l = [] ∨ ∀ b o s, al = some ⟨b, o, s⟩ → b < w.heap.size) (htab : Lib.TabIs Tryd.prog w "internal/strconv.uint64pow10" .u64 Lib.pow10Tab) :
    Calls Tryd.prog 14 #[.slice al n cl] w (RetFits l w) := by
  subst hn
  cases hk : chkL l with
  | false => exact hfits_bad l al cl w hl hr hk
  | true =>
    cases hS : S l 0 [] with
    | none => exact hfits_none l al cl w hr hal hk htab hS
    | some r => exact hfits_some l al cl w hr hal hk htab r hS
end Go.Proofs.YtkboojpkkhiceaaDoor
