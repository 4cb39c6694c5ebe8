import Derived.Test.YtkboojpkkhiceaaDoorHisFindR
import Derived.Test.YtkboojpkkhiceaaDoorHisFits
import Derived.Test.YtkboojpkkhiceaaDoorHisRefCheck
set_option linter.unusedVariables false
set_option linter.unusedSimpArgs false
/- The document's search whole; its Fits. -/
namespace Go.Proofs.YtkboojpkkhiceaaDoor
open Go.ChangeShapes Go.WideShapes Go.ChangeAt Go.RowKit
set_option maxRecDepth 100000

theorem findr_any (l : List HCall) (al : Option Addr) (cl E B gf : Nat) (hl : l.length ≤ 12) (hEg : E ≤ gf) (hal : ∀ b o s, al = some ⟨b, o, s⟩ → b < E) : ∀ (u : Nat)
    (d : Nat) (t : List Force) (a : Option Addr) (c : Nat) (w : World) (ds : List Ded) (ad : Option Addr) (cd : Nat), d < 65536 → tabOk t = true → LRow layFce w a t → (t = [] ∨ Away gf gf ad a) →
      EnvR l al cl B gf w ds ad cd → undone l d ≤ u → ds.length + roomN u ≤ 1000000000 → E ≤ w.heap.size →
      Calls Tryd.prog 37 #[.pointer (some ⟨gf, 0, none⟩), .int .u16 d, .slice a t.length c] w (RetFindR l al cl B gf u ds.length ad d t w) := by
  intro u
  induction u with
  | zero =>
    intro d t a c w ds ad cd hd hok hr ha he hu hn hE
    exact findr_whole l al cl B gf hl 0 d t a c w ds ad cd hd he (find_none (by omega))
  | succ u ih =>
    intro d t a c w ds ad cd hd hok hr ha he hu hn hE
    cases hw : wholeL l d with
    | true => exact findr_whole l al cl B gf hl (u + 1) d t a c w ds ad cd hd he hw
    | false => exact findr_go l al cl E B gf hl hEg hal u ih d t a c w ds ad cd hd hok hr ha he hu hn hE hw
def RetFitsR (l : List HCall) (w : World) (e : Ending) (w' : World) : Prop :=
  ∃ a c, e = .returned (.tuple #[.slice a (fitsF l).1.length c, .bool (fitsF l).2.1, .int .i64 (fitsF l).2.2]) ∧ Row w' a (nums (fitsF l).1) ∧ Below w.heap.size w w'
theorem envr_start (l : List HCall) (al : Option Addr) (cl : Nat) (w w2 : World) (hr : LRow layCal w al l) (hb : Below w.heap.size w w2) :
    EnvR l al cl (w2.heap.size + 1) w2.heap.size (w2.alloc (.cells #[.slice al l.length cl, .slice none 0 0] 73)) [] none 0 :=
  ⟨Box.of_alloc (cs := [.slice al l.length cl, .slice none 0 0]) (Below.refl _ _), Row.alloc (Row.below hr hb) _, World.ownsRow_nil _ _ _ _, (by intro x hx; cases hx), Nat.lt_succ_self _, by simp⟩
theorem fr_below {gf E : Nat} {w w' : World} (h : Fr gf gf none w w') (hE : E ≤ gf) (hs : E ≤ w.heap.size) : Below E w w' :=
  ⟨h.os, h.tape, h.output, h.size, fun k hk => h.block k (by omega) (by omega) (by omega) (fun o s e => by cases e)⟩
set_option maxHeartbeats 4000000 in
theorem rfits_bad (l : List HCall) (al : Option Addr) (cl : Nat) (w : World) (hl : l.length ≤ 1000) (hr : LRow layCal w al l) (hk : chkL l = false) :
    Calls Tryd.prog 15 #[.slice al l.length cl] w (RetFitsR l w) := by
  have HF := Lib.hid (fits_bad hk)
  have HC := Lib.hid (refhcheck_any l al l.length cl w rfl (le_maxLen (by omega)) hr)
  have HKK := Lib.hid hk
  clear hk hr
  go_enter Tryd.func15, Tryd.ntmps15
  go_wp2_with (first
    | (go_at_call 13; ((with_reducible refine HC.out.mono ?_); rw [HKK.out]; rintro e w2 ⟨rfl, hb2⟩; have HB2 := Lib.hid hb2; clear hb2)))
  go_returns
  rw [RetFitsR, HF.out]
  exact ⟨none, 0, rfl, .inl rfl, HB2.out⟩
set_option maxHeartbeats 4000000 in
theorem rfits_good (l : List HCall) (al : Option Addr) (cl : Nat) (w : World) (hl : l.length ≤ 7) (hr : LRow layCal w al l) (hal : l = [] ∨ ∀ b o s, al = some ⟨b, o, s⟩ → b < w.heap.size) (hk : chkL l = true) :
    Calls Tryd.prog 15 #[.slice al l.length cl] w (RetFitsR l w) := by
  have HC := Lib.hid (refhcheck_any l al l.length cl w rfl (le_maxLen (by omega)) hr)
  have HKK := Lib.hid hk
  have HFIND : Hid (∀ w2, Below w.heap.size w w2 → Calls Tryd.prog 37 #[.pointer (some ⟨w2.heap.size, 0, none⟩), .int .u16 0, .slice none 0 0] (w2.alloc (.cells #[.slice al l.length cl, .slice none 0 0] 73)) (RetFindR l al cl (w2.heap.size + 1) w2.heap.size 7 0 none 0 [] (w2.alloc (.cells #[.slice al l.length cl, .slice none 0 0] 73)))) := fun w2 hb => by
    have he := envr_start l al cl w w2 hr hb
    rcases hal with h0 | hal
    · exact findr_whole l al cl _ _ (by omega) 7 0 [] none 0 _ [] none 0 (by decide) he (by subst h0; rfl)
    · exact findr_any l al cl w.heap.size _ _ (by omega) hb.size hal 7 0 [] none 0 _ [] none 0 (by decide) rfl (.inl rfl) (.inl rfl) he (Nat.le_trans (undone_le l 0) hl) (by decide) (by rw [World.size_alloc]; exact Nat.le_succ_of_le hb.size)
  rcases hS : S l 0 [] with _ | r
  · have HF := Lib.hid (fits_none hk hS)
    have HSV := Lib.hid hS
    clear hS hk hr hal
    go_enter Tryd.func15, Tryd.ntmps15
    go_wp2_with (first
      | (go_at_call 13; ((with_reducible refine HC.out.mono ?_); rw [HKK.out]; rintro e w2 ⟨rfl, hb2⟩; have HB2 := Lib.hid hb2; have HFF := Lib.hid (HFIND.out w2 hb2); clear hb2))
      | (go_at_call 37; ((with_reducible refine HFF.out.mono ?_); intro e w7 hret; rw [RetFindR, HSV.out] at hret; obtain ⟨a7, c7, d7, ad7, cd7, rfl, hr7, -, -, hf7, -⟩ := hret; have HR7 := Lib.hid hr7; have HB7 : Hid (Below w.heap.size w w7) := (HB2.out.trans (((Below.refl w2.heap.size w2).alloc (Nat.le_refl _) _).mono HB2.out.size)).trans (fr_below hf7 HB2.out.size (by rw [World.size_alloc]; exact Nat.le_succ_of_le HB2.out.size)); clear hr7 hf7)))
    go_returns
    rw [RetFitsR, HF.out]
    exact ⟨a7, c7, rfl, HR7.out, HB7.out⟩
  · have HF := Lib.hid (fits_some hk hS)
    have HSV := Lib.hid hS
    clear hS hk hr hal
    go_enter Tryd.func15, Tryd.ntmps15
    go_wp2_with (first
      | (go_at_call 13; ((with_reducible refine HC.out.mono ?_); rw [HKK.out]; rintro e w2 ⟨rfl, hb2⟩; have HB2 := Lib.hid hb2; have HFF := Lib.hid (HFIND.out w2 hb2); clear hb2))
      | (go_at_call 37; ((with_reducible refine HFF.out.mono ?_); intro e w7 hret; rw [RetFindR, HSV.out] at hret; obtain ⟨a7, c7, d7, ad7, cd7, rfl, hr7, -, -, hf7, -⟩ := hret; have HR7 := Lib.hid hr7; have HB7 : Hid (Below w.heap.size w w7) := (HB2.out.trans (((Below.refl w2.heap.size w2).alloc (Nat.le_refl _) _).mono HB2.out.size)).trans (fr_below hf7 HB2.out.size (by rw [World.size_alloc]; exact Nat.le_succ_of_le HB2.out.size)); clear hr7 hf7)))
    go_returns
    rw [RetFitsR, HF.out]
    exact ⟨a7, c7, rfl, HR7.out, HB7.out⟩
theorem rfits_any (l : List HCall) (al : Option Addr) (n cl : Nat) (w : World) (hn : l.length = n) (hl : n ≤ 1000) (h7 : chkL l = true → n ≤ 7) (hr : LRow layCal w al l) (hal : l = [] ∨ ∀ b o s, al = some ⟨b, o, s⟩ → b < w.heap.size) :
    Calls Tryd.prog 15 #[.slice al n cl] w (RetFitsR l w) := by
  subst hn
  cases hk : chkL l with
  | false => exact rfits_bad l al cl w hl hr hk
  | true => exact rfits_good l al cl w (h7 hk) hr hal hk
end Go.Proofs.YtkboojpkkhiceaaDoor
