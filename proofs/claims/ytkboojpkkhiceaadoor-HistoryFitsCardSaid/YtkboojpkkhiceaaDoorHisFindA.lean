import Derived.Test.YtkboojpkkhiceaaDoorPackHistoryDoes3
import Derived.StillTailTactics
import Derived.WalkMore
import Derived.BigQuiet
set_option linter.unusedVariables false
set_option linter.unusedSimpArgs false
/- The search for an order, the program's side: what is done; what was seen. (printed by gen_hisfind.py) -/
namespace Go.Proofs.YtkboojpkkhiceaaDoor
open Go.ChangeShapes Go.WideShapes Go.ChangeAt Go.RowKit Go.Maps
set_option maxRecDepth 100000

def laySpot : Lay Tryd.prog 67 (Nat × List UInt8) := Lay.struct (fun p => [.int .u16 p.1, .string ⟨p.2.toArray⟩]) 2 24 (fun _ => rfl) (by decide) (by decide) (fun x u hu => by simp at hu; rcases hu with h | h <;> subst h <;> rfl) (by kernel_rfl) _ Tryd.underlying67 rfl
theorem enter_find (args : Array Value) (w : World) : (callFunc 33 args).run Tryd.prog w = .ok (.enter 33 args) w := by kernel_rfl
theorem zero_bool (w : World) : (zeroValue 4).run Tryd.prog w = .ok (.bool false) w := by simp [zeroValue, typeInfo]; rfl
theorem Fr.below {E B gl gs go gf mb : Nat} {ao : Option Addr} {w w' : World} (h : Fr go mb ao w w') (G : Geo E B gl gs go gf mb) (ha : ∀ b o s, ao = some ⟨b, o, s⟩ → B ≤ b) (hE : E ≤ w.heap.size) : Below E w w' :=
  ⟨h.os, h.tape, h.output, h.size, fun k hk => h.block k (by omega) (by have := G.eo; omega) (by have := G.em; omega) (fun o s e => by have h1 := ha _ _ _ e; have := G.el; have := G.lb; omega)⟩
theorem find_none {l : List HCall} {d : Nat} (h : undone l d = 0) : wholeL l d = true := by
  unfold wholeL wholeB
  unfold undone at h
  rw [List.countP_eq_zero] at h
  rw [List.all_eq_true]
  intro j hj
  have := h j hj
  simp at this
  simp [this]
set_option maxHeartbeats 16000000 in
theorem find_whole (l : List HCall) (al : Option Addr) (cl E B gl gs go gf mb : Nat) (hl : l.length ≤ 12) (u : Nat)
    (d : Nat) (t : List Force) (a : Option Addr) (c : Nat) (w : World) (os : List Nat) (ao : Option Addr) (co n : Nat) (seen : Nat × List UInt8 → Bool) (hd : d < 65536) (hok : tabOk t = true) (hc : a = none → c = 0) (hnc : t.length ≤ c) (hr : LRow layFce w a t) (ha : t = [] ∨ Away go mb ao a)
    (he : Env l al cl B gl gs go gf mb w os ao co n seen) (hs : SeenOk l seen) (hT : Lib.TabBelow Tryd.prog E w "internal/strconv.uint64pow10" .u64 Lib.pow10Tab) (hw : wholeL l d = true) :
    Calls Tryd.prog 33 #[.int .u16 d, .slice a t.length c, .pointer (some ⟨gl, 0, none⟩), .pointer (some ⟨gs, 0, none⟩), .pointer (some ⟨go, 0, none⟩), .pointer (some ⟨gf, 0, none⟩)] w (RetFind l al cl B gl gs go gf mb u os ao n d t w) := by
  have hlen := tabOk_len hok
  have HKEY := Lib.hid (key_any t a t.length c w rfl (by omega) hr (tab_ini hok) hT.here)
  have HE := Lib.hid he
  have HS := Lib.hid hs
  have HW := Lib.hid hw
  have HSS := Lib.hid (S_whole (t := t) hl hw)
  clear hw ha hr hT he hs hok hc
  go_enter Tryd.func33, Tryd.ntmps33
  go_wp2_with fail
  go_step3
  go_wp2_with (first
    | (go_at_call 34; ((with_reducible refine HKEY.out.mono ?_); rintro e w1 ⟨rfl, hb1⟩; have HE1 := Lib.hid (HE.out.next hb1); have hB1 := Lib.hid hb1; have hs1 := hb1.size; clear hb1))
    | (refine wpList_store_box laySpot rfl (.tmp 9) (.tmp 16) rfl (d, keyB t) rfl rfl rfl ?_; intro w2 hw2 ht2 hb2 hs2; have HE2 := Lib.hid (HE1.out.next hb2); have HX2 : Hid (Box w2 w1.heap.size [.int .u16 d, .string ⟨(keyB t).toArray⟩]) := ⟨hw2, ht2⟩; have hB2 := Lib.hid (hB1.out.trans (hb2.mono hs1)); have hsz2 := hs2; have e1 := HE2.out.bl.cell (j := 0) rfl; clear hw2 ht2 hb2 hs2)
    | (go_at_call 35; ((with_reducible refine (whole_any l d _ l.length cl w2 rfl hl hd HE2.out.rl).mono ?_); rw [HW.out]; rintro e w3 ⟨rfl, hb3⟩; have HE3 := Lib.hid (HE2.out.next hb3); have HX3 := Lib.hid (HX2.out.next (by simp) hb3); have hB3 := Lib.hid (hB2.out.trans (hb3.mono hB2.out.size)); have hs3 := hb3.size; clear hb3 e1; have e1 := HE3.out.bl.cell (j := 0) rfl; have e2 := HE3.out.bs.cell (j := 0) rfl)))
  (((try simp only [Exit.inBlock, Exit.then]); (try rw [Exit.noGoto_ret])); go_returns)
  rw [RetFind, HSS.out]
  exact ⟨ao, co, n, seen, rfl, by rw [Option.getD_some, List.append_nil]; exact HE3.out, HS.out, Nat.le_add_right _ _, .of hB3.out, Near.self _ _⟩
set_option maxHeartbeats 16000000 in
theorem find_seen (l : List HCall) (al : Option Addr) (cl E B gl gs go gf mb : Nat) (G : Geo E B gl gs go gf mb) (hal : ∀ b o s, al = some ⟨b, o, s⟩ → b < E) (hl : l.length ≤ 12) (u : Nat)
    (d : Nat) (t : List Force) (a : Option Addr) (c : Nat) (w : World) (os : List Nat) (ao : Option Addr) (co n : Nat) (seen : Nat × List UInt8 → Bool) (hd : d < 65536) (hok : tabOk t = true) (hc : a = none → c = 0) (hnc : t.length ≤ c) (hr : LRow layFce w a t) (ha : t = [] ∨ Away go mb ao a)
    (he : Env l al cl B gl gs go gf mb w os ao co n seen) (hs : SeenOk l seen) (hT : Lib.TabBelow Tryd.prog E w "internal/strconv.uint64pow10" .u64 Lib.pow10Tab) (hw : wholeL l d = false) (hse : seen (d, keyB t) = true) :
    Calls Tryd.prog 33 #[.int .u16 d, .slice a t.length c, .pointer (some ⟨gl, 0, none⟩), .pointer (some ⟨gs, 0, none⟩), .pointer (some ⟨go, 0, none⟩), .pointer (some ⟨gf, 0, none⟩)] w (RetFind l al cl B gl gs go gf mb u os ao n d t w) := by
  have hlen := tabOk_len hok
  have HKEY := Lib.hid (key_any t a t.length c w rfl (by omega) hr (tab_ini hok) hT.here)
  have HE := Lib.hid he
  have HS := Lib.hid hs
  have HW := Lib.hid hw
  have HSS := Lib.hid (hs d t hd hok hse)
  have HSE := Lib.hid hse
  have HOK := Lib.hid hok
  clear hw hse hal ha hr hT G he hs hok hc
  go_enter Tryd.func33, Tryd.ntmps33
  go_wp2_with fail
  go_step3
  go_wp2_with (first
    | (go_at_call 34; ((with_reducible refine HKEY.out.mono ?_); rintro e w1 ⟨rfl, hb1⟩; have HE1 := Lib.hid (HE.out.next hb1); have hB1 := Lib.hid hb1; have hs1 := hb1.size; clear hb1))
    | (refine wpList_store_box laySpot rfl (.tmp 9) (.tmp 16) rfl (d, keyB t) rfl rfl rfl ?_; intro w2 hw2 ht2 hb2 hs2; have HE2 := Lib.hid (HE1.out.next hb2); have HX2 : Hid (Box w2 w1.heap.size [.int .u16 d, .string ⟨(keyB t).toArray⟩]) := ⟨hw2, ht2⟩; have hB2 := Lib.hid (hB1.out.trans (hb2.mono hs1)); have hsz2 := hs2; have e1 := HE2.out.bl.cell (j := 0) rfl; clear hw2 ht2 hb2 hs2)
    | (go_at_call 35; ((with_reducible refine (whole_any l d _ l.length cl w2 rfl hl hd HE2.out.rl).mono ?_); rw [HW.out]; rintro e w3 ⟨rfl, hb3⟩; have HE3 := Lib.hid (HE2.out.next hb3); have HX3 := Lib.hid (HX2.out.next (by simp) hb3); have hB3 := Lib.hid (hB2.out.trans (hb3.mono hB2.out.size)); have hs3 := hb3.size; clear hb3 e1; have e1 := HE3.out.bl.cell (j := 0) rfl; have e2 := HE3.out.bs.cell (j := 0) rfl))
    | (refine wpList_load_as laySpot rfl (.tmp 9) rfl w1.heap.size 0 rfl (d, keyB t) (.agg #[.int .u16 d, .string ⟨(keyB t).toArray⟩]) rfl HX3.out.range ?_)
    | (at_lookup; refine wpList_getB keySpot Tryd.underlying62 Tryd.underlying4 zero_bool rfl (.tmp 22) (.tmp 23) rfl mb n seen rfl HE3.out.mp (d, keyB t) ⟨hd, (show (keyB t).length ≤ 2000 by have := keyB_small HOK.out; omega)⟩ rfl ?_; rw [HSE.out]))
  (((try simp only [Exit.inBlock, Exit.then]); (try rw [Exit.noGoto_ret])); go_returns)
  rw [RetFind, HSS.out]
  exact ⟨ao, co, n, seen, rfl, by rw [Option.getD_none, List.append_nil]; exact HE3.out, HS.out, Nat.le_add_right _ _, .of hB3.out, Near.self _ _⟩
end Go.Proofs.YtkboojpkkhiceaaDoor
