import Derived.Test.YtnpbajmpenpnbaaWithOne
import Derived.Test.YtnpbajmpenpnbaaAns
namespace Go.Proofs.Ytnpbajmpenpnbaa
open Go.ChangeShapes Go.WideShapes Go.ChangeAt Go.RowKit

def RetTA (w : World) (src : Option Addr) (r : List Tenant × Ans) (e : Ending) (w' : World) : Prop :=
  ∃ a c, e = .returned (.tuple #[.slice a r.1.length c, r.2.agg]) ∧ r.1.length ≤ c ∧ (a = none → c = 0) ∧ Near w.heap.size src a ∧ TRow w' a r.1 ∧ Below w.heap.size w w'
def RetTF (w : World) (r : Tenant × Bool) (e : Ending) (w' : World) : Prop := e = .returned (.tuple #[r.1.agg, .bool r.2]) ∧ Below w.heap.size w w'
def RetA (w : World) (r : Ans) (e : Ending) (w' : World) : Prop := e = .returned r.agg ∧ Below w.heap.size w w'

theorem set5 {B : Nat} {w w' : World} (h : Below B w w') {g : Nat} (hg : B ≤ g) (v0 v1 v2 v3 v4 : Value) :
    Below B w (((((w'.setCell ⟨g, 0, none⟩ v0).setCell ⟨g, 1, none⟩ v1).setCell ⟨g, 2, none⟩ v2).setCell ⟨g, 3, none⟩ v3).setCell ⟨g, 4, none⟩ v4) :=
  ((((h.setCell hg _).setCell hg _).setCell hg _).setCell hg _).setCell hg _
theorem Row.set5 {w : World} {a : Option Addr} {xs : List Value} (h : Row w a xs) {g : Nat} (hg : ∀ b o s, a = some ⟨b, o, s⟩ → b ≠ g) (v0 v1 v2 v3 v4 : Value) :
    Row (((((w.setCell ⟨g, 0, none⟩ v0).setCell ⟨g, 1, none⟩ v1).setCell ⟨g, 2, none⟩ v2).setCell ⟨g, 3, none⟩ v3).setCell ⟨g, 4, none⟩ v4) a xs :=
  ((((h.setOther hg _).setOther hg _).setOther hg _).setOther hg _).setOther hg _
theorem Near.ne {B g : Nat} {a : Option Addr} (h : Near B none a) (hg : g < B) : ∀ b o s, a = some ⟨b, o, s⟩ → b ≠ g := fun b o s ha => by
  rcases h b o s ha with h1 | ⟨_, _, h1⟩
  · omega
  · cases h1

theorem pfind_any (ts : List Tenant) (a : Option Addr) (n c : Nat) (id : Int) (w : World) (hn : ts.length = n) (hl : ts.length ≤ maxLen) (hr : TRow w a ts) :
    Calls Try.prog 19 #[.slice a n c, .int .i64 id] w (RetTF w (findT ts id)) := by
  subst hn
  have hl2 := lt_maxLen hl
  cases hf : ts.findIdx? (fun x => x.id == id) with
  | none =>
    have HP : Hid (idx (fun x => x.id == id) ts = -1) := by show idx _ _ = _; unfold idx; rw [hf]
    have HW : Hid (findT ts id = (zeroT, false)) := by show findT _ _ = _; unfold findT; rw [hf]
    clear hf
    go_enter Try.func19, Try.ntmps19
    go_wp2_with (go_at_call 40; ((with_reducible refine (place_any ts _ _ _ _ _ rfl hl (Row.alloc hr _)).mono ?_); rw [HP.out]; rintro e w2 ⟨rfl, hb⟩; have hcl := own_cells hb; have hfz := own_frozen hb))
    (try simp only [Exit.inBlock, Exit.then])
    refine bodyPost_ret (v := .tuple #[zeroT.agg, .bool false]) (by simp [results, Try.results19, go_sem, hcl, zeroT]) rfl ?_
    exact ⟨by rw [HW.out], (((Below.refl _ _).alloc (Nat.le_refl _) _).trans (hb.mono (by simp))).setCell (Nat.le_refl _) _ |>.setCell (Nat.le_refl _) _ |>.setCell (Nat.le_refl _) _ |>.setCell (Nat.le_refl _) _ |>.setCell (Nat.le_refl _) _⟩
  | some k =>
    have hk : k < ts.length := (List.findIdx?_eq_some_iff_getElem.1 hf).1
    have HP : Hid (idx (fun x => x.id == id) ts = (k : Int)) := by show idx _ _ = _; unfold idx; rw [hf]
    have HW : Hid (findT ts id = if tensOk 0 ts then (ts[k]?.getD zeroT, true) else (zeroT, false)) := by show findT _ _ = _; unfold findT; rw [hf]
    clear hf
    obtain ⟨b, o, rfl, hcs⟩ := hr.at hk
    have HCS := Lib.hid hcs
    clear hcs
    cases ht : tensOk 0 ts with
    | false =>
      have HT := Lib.hid ht
      clear ht
      go_enter Try.func19, Try.ntmps19
      go_wp2_with (first
        | (go_at_call 40; ((with_reducible refine (place_any ts _ _ _ _ _ rfl hl (Row.alloc hr _)).mono ?_); rw [HP.out]; rintro e w2 ⟨rfl, hb⟩))
        | (go_at_call 12; ((with_reducible refine (check_any ts _ _ _ _ rfl hl ((Row.alloc hr _).below hb)).mono ?_); rw [HT.out]; rintro e w3 ⟨rfl, hb3⟩; have hb4 := hb.trans (hb3.mono hb.size); have hcl := own_cells hb4; have hfz := own_frozen hb4)))
      (try simp only [Exit.inBlock, Exit.then])
      refine bodyPost_ret (v := .tuple #[zeroT.agg, .bool false]) (by simp [results, Try.results19, go_sem, hcl, zeroT]) rfl ?_
      exact ⟨by rw [HW.out, HT.out]; rfl, (((Below.refl _ _).alloc (Nat.le_refl _) _).trans (hb4.mono (by simp))).setCell (Nat.le_refl _) _ |>.setCell (Nat.le_refl _) _ |>.setCell (Nat.le_refl _) _ |>.setCell (Nat.le_refl _) _ |>.setCell (Nat.le_refl _) _⟩
    | true =>
      have HT := Lib.hid ht
      clear ht
      have hx : ts[k]? = some ts[k] := List.getElem?_eq_getElem hk
      have HX := Lib.hid hx
      clear hx
      go_enter Try.func19, Try.ntmps19
      go_wp2_with (first
        | (go_at_call 40; ((with_reducible refine (place_any ts _ _ _ _ _ rfl hl (Row.alloc hr _)).mono ?_); rw [HP.out]; rintro e w2 ⟨rfl, hb⟩))
        | (go_at_call 12; ((with_reducible refine (check_any ts _ _ _ _ rfl hl ((Row.alloc hr _).below hb)).mono ?_); rw [HT.out]; rintro e w3 ⟨rfl, hb3⟩; have hb4 := hb.trans (hb3.mono hb.size); have hcl := own_cells hb4; have hfz := own_frozen hb4; have hb5 := ((Below.refl w.heap.size w).alloc (Nat.le_refl _) _).trans (hb4.mono (by simp)); obtain ⟨h0, h1, h2, h3, h4⟩ := HCS.out _ hb5)))
      (try simp only [Exit.inBlock, Exit.then])
      refine bodyPost_ret (v := .tuple #[ts[k].agg, .bool true]) (by simp [results, Try.results19, go_sem, hcl]) rfl ?_
      exact ⟨by rw [HW.out, HT.out, HX.out]; rfl, hb5.setCell (Nat.le_refl _) _ |>.setCell (Nat.le_refl _) _ |>.setCell (Nat.le_refl _) _ |>.setCell (Nat.le_refl _) _ |>.setCell (Nat.le_refl _) _⟩

theorem pget_any (ts : List Tenant) (a : Option Addr) (n c : Nat) (id : Int) (w : World) (hn : ts.length = n) (hl : ts.length ≤ maxLen) (hr : TRow w a ts) :
    Calls Try.prog 16 #[.slice a n c, .int .i64 id] w (RetA w (getS ts id)) := by
  have HG : Hid (getS ts id = if tensOk 0 ts = false then Ans.err 2 else if (findT ts id).2 = false ∨ (findT ts id).1.gone = true then Ans.err 161 else ⟨0, (findT ts id).1.rate, (findT ts id).1.burst, 0, 0⟩) := rfl
  generalize getS ts id = out at HG ⊢
  have hfind := pfind_any ts a n c id (w.alloc (.cells #[.int .i64 0, .int .i64 0, .int .i64 0, .int .i64 0, .int .i64 0] 27)) hn hl (Row.alloc hr _)
  rcases hfd : findT ts id with ⟨⟨xid, xrate, xburst, xbucket, xgone⟩, ok⟩
  rw [hfd] at hfind HG
  have HF := Lib.hid hfind
  clear hfind hfd
  cases ht : tensOk 0 ts with
  | false =>
    have HT := Lib.hid ht
    have HO : Hid (out = Ans.err 2) := by rw [HG.out, if_pos ht]; exact rfl
    clear ht HG
    go_enter Try.func16, Try.ntmps16
    go_wp2_with (first
      | (go_at_call 19; ((with_reducible refine HF.out.mono ?_); rintro e w2 ⟨rfl, hb⟩; have hcl := own_cells hb; have hfz := own_frozen hb))
      | (go_at_call 12; ((with_reducible refine (check_any ts _ _ _ _ hn hl (Row.alloc ((Row.alloc hr _).below hb) _)).mono ?_); rw [HT.out]; rintro e w3 ⟨rfl, hb3⟩; have hb4 := (hb.alloc hb.size _).trans (hb3.mono (by have := hb.size; simp at this; simp; omega)); have hcl := own_cells hb4; have hfz := own_frozen hb4)))
    (try simp only [Exit.inBlock, Exit.then])
    refine bodyPost_ret (v := .agg #[.int .i64 2, .int .i64 0, .int .i64 0, .int .i64 0, .int .i64 0]) (by simp [results, Try.results16, go_sem, hcl]) rfl ?_
    have hb5 := ((Below.refl w.heap.size w).alloc (Nat.le_refl _) _).trans (hb4.mono (by simp))
    exact ⟨by rw [HO.out]; rfl, hb5.setCell (Nat.le_refl _) _ |>.setCell (Nat.le_refl _) _ |>.setCell (Nat.le_refl _) _ |>.setCell (Nat.le_refl _) _ |>.setCell (Nat.le_refl _) _⟩
  | true =>
    have HT := Lib.hid ht
    cases ok with
    | false =>
      have HO : Hid (out = Ans.err 161) := by rw [HG.out, if_neg (by rw [ht]; simp), if_pos (.inl rfl)]; exact rfl
      clear ht HG
      go_enter Try.func16, Try.ntmps16
      go_wp2_with (first
        | (go_at_call 19; ((with_reducible refine HF.out.mono ?_); rintro e w2 ⟨rfl, hb⟩; have hcl := own_cells hb; have hfz := own_frozen hb))
        | (go_at_call 12; ((with_reducible refine (check_any ts _ _ _ _ hn hl (Row.alloc ((Row.alloc hr _).below hb) _)).mono ?_); rw [HT.out]; rintro e w3 ⟨rfl, hb3⟩; have hb4 := (hb.alloc hb.size _).trans (hb3.mono (by have := hb.size; simp at this; simp; omega)); have hcl := own_cells hb4; have hfz := own_frozen hb4; have hcx := own_cells hb3)))
      (try simp only [Exit.inBlock, Exit.then])
      refine bodyPost_ret (v := .agg #[.int .i64 161, .int .i64 0, .int .i64 0, .int .i64 0, .int .i64 0]) (by simp [results, Try.results16, go_sem, hcl]) rfl ?_
      have hb5 := ((Below.refl w.heap.size w).alloc (Nat.le_refl _) _).trans (hb4.mono (by simp))
      exact ⟨by rw [HO.out]; rfl, hb5.setCell (Nat.le_refl _) _ |>.setCell (Nat.le_refl _) _ |>.setCell (Nat.le_refl _) _ |>.setCell (Nat.le_refl _) _ |>.setCell (Nat.le_refl _) _⟩
    | true =>
      cases xgone with
      | true =>
        have HO : Hid (out = Ans.err 161) := by rw [HG.out, if_neg (by rw [ht]; simp), if_pos (.inr rfl)]; exact rfl
        clear ht HG
        go_enter Try.func16, Try.ntmps16
        go_wp2_with (first
          | (go_at_call 19; ((with_reducible refine HF.out.mono ?_); rintro e w2 ⟨rfl, hb⟩; have hcl := own_cells hb; have hfz := own_frozen hb))
          | (go_at_call 12; ((with_reducible refine (check_any ts _ _ _ _ hn hl (Row.alloc ((Row.alloc hr _).below hb) _)).mono ?_); rw [HT.out]; rintro e w3 ⟨rfl, hb3⟩; have hb4 := (hb.alloc hb.size _).trans (hb3.mono (by have := hb.size; simp at this; simp; omega)); have hcl := own_cells hb4; have hfz := own_frozen hb4; have hcx := own_cells hb3)))
        (try simp only [Exit.inBlock, Exit.then])
        refine bodyPost_ret (v := .agg #[.int .i64 161, .int .i64 0, .int .i64 0, .int .i64 0, .int .i64 0]) (by simp [results, Try.results16, go_sem, hcl]) rfl ?_
        have hb5 := ((Below.refl w.heap.size w).alloc (Nat.le_refl _) _).trans (hb4.mono (by simp))
        exact ⟨by rw [HO.out]; rfl, hb5.setCell (Nat.le_refl _) _ |>.setCell (Nat.le_refl _) _ |>.setCell (Nat.le_refl _) _ |>.setCell (Nat.le_refl _) _ |>.setCell (Nat.le_refl _) _⟩
      | false =>
        have HO : Hid (out = ⟨0, xrate, xburst, 0, 0⟩) := by rw [HG.out, if_neg (by rw [ht]; simp), if_neg (by simp)]; exact rfl
        clear ht HG
        go_enter Try.func16, Try.ntmps16
        go_wp2_with (first
          | (go_at_call 19; ((with_reducible refine HF.out.mono ?_); rintro e w2 ⟨rfl, hb⟩; have hcl := own_cells hb; have hfz := own_frozen hb))
          | (go_at_call 12; ((with_reducible refine (check_any ts _ _ _ _ hn hl (Row.alloc ((Row.alloc hr _).below hb) _)).mono ?_); rw [HT.out]; rintro e w3 ⟨rfl, hb3⟩; have hb4 := (hb.alloc hb.size _).trans (hb3.mono (by have := hb.size; simp at this; simp; omega)); have hcl := own_cells hb4; have hfz := own_frozen hb4; have hcx := own_cells hb3)))
        (try simp only [Exit.inBlock, Exit.then])
        refine bodyPost_ret (v := .agg #[.int .i64 0, .int .i64 xrate, .int .i64 xburst, .int .i64 0, .int .i64 0]) (by simp [results, Try.results16, go_sem, hcl]) rfl ?_
        have hb5 := ((Below.refl w.heap.size w).alloc (Nat.le_refl _) _).trans (hb4.mono (by simp))
        exact ⟨by rw [HO.out], hb5.setCell (Nat.le_refl _) _ |>.setCell (Nat.le_refl _) _ |>.setCell (Nat.le_refl _) _ |>.setCell (Nat.le_refl _) _ |>.setCell (Nat.le_refl _) _⟩
end Go.Proofs.Ytnpbajmpenpnbaa
