import Derived.Test.YtoofmofaimdhpaaAsks
import Derived.WalkSpells
import Derived.Deep.RegionHeld3
import Derived.Deep.DeepMust
import Derived.Test.YtoofmofaimdhpaaPackA1
set_option linter.unusedVariables false
set_option linter.unusedSimpArgs false
namespace Go.Proofs.Ytoofmofaimdhpaa
open Go.ChangeShapes Go.WideShapes Go.ChangeAt Go.RowKit
set_option maxRecDepth 100000

theorem enter_check5 (args : Array Value) (w : World) : (callFunc 82 args).run Try.prog w = .ok (.enter 82 args) w := by kernel_rfl

set_option maxHeartbeats 1000000 in
theorem check_any (ts : List Tenant) (a : Option Addr) (n c : Nat) (w : World) (hn : ts.length = n) (hl : ts.length ≤ maxLen) (hr : TRow w a ts) :
    Calls Try.prog 46 #[.slice a n c] w fun e w' => e = .returned (.bool (tensOk 0 ts)) ∧ Below w.heap.size w w' := by
  subst hn
  have hl2 := lt_maxLen hl
  go_enter Try.func46, Try.ntmps46
  go_wp2
  go_loopw [11] (fun i wr => ∃ k : Nat, k ≤ ts.length ∧ i = .int .i64 k ∧ tensOk 0 (ts.take k) = true ∧ wr.cell? ⟨w.heap.size, 0, none⟩ = some (.int .i64 (lastId (ts.take k))) ∧ wr.frozen? ⟨w.heap.size, 0, none⟩ = false ∧ w.heap.size + 2 ≤ wr.heap.size ∧
      Row wr (some ⟨w.heap.size + 1, 0, none⟩) [askVal w.heap.size 0, askVal w.heap.size 1, askVal w.heap.size 2, askVal w.heap.size 3] ∧ Below w.heap.size w wr) (fun i _ => ts.length - (intOf i).toNat)
  case atStart =>
    refine ⟨0, by omega, rfl, rfl, ?_, ?_, ?_, ?_, by go_grown⟩
    · rw [World.cell?_alloc_past _ _ _ (by simp), World.cell?_alloc_at _ _ _ _ rfl]; rfl
    · rw [World.frozen?_alloc_past _ _ _ (by simp), World.frozen?_alloc_at _ _ _ _ rfl]
    · simp
    · have := Row.new (w.alloc (.cells #[.int .i64 0] 3)) #[askVal w.heap.size 0, askVal w.heap.size 1, askVal w.heap.size 2, askVal w.heap.size 3] 80 (0, 0)
      simp only [World.size_alloc] at this
      exact this
  case round =>
    obtain ⟨k, hk, rfl, hok, hlast, hfz, hsz, hrow, hb⟩ := hrel
    by_cases hlt : k < ts.length
    · obtain ⟨b, o, rfl, hcs⟩ := hr.at hlt
      obtain ⟨h0, h1, h2, h3, h4⟩ := hcs _ hb
      have hltw : w.heap.size < wr.heap.size := by omega
      have hcall := containsFuncs_any (fun i => !askAt (lastId (ts.take k)) ts[k] i) [askVal w.heap.size 0, askVal w.heap.size 1, askVal w.heap.size 2, askVal w.heap.size 3] (some ⟨w.heap.size + 1, 0, none⟩) 4 4 82
        #[.pointer (some ⟨wr.heap.size, 0, none⟩)] (wr.alloc (.cells #[.int .i64 ts[k].id, .int .i64 ts[k].rate, .int .i64 ts[k].burst, .int .i64 ts[k].bucket, .bool ts[k].gone] 55)) rfl (by decide) (hrow.alloc _) enter_check5
        (by
          intro i v hv w' hb'
          have hi : i < 4 := (List.getElem?_eq_some_iff.1 hv).1
          obtain rfl : askVal w.heap.size i = v := by
            match i, hi with
            | 0, _ => simpa using hv
            | 1, _ => simpa using hv
            | 2, _ => simpa using hv
            | 3, _ => simpa using hv
          have hx : ∀ j, w'.cell? ⟨wr.heap.size, j, none⟩ = #[Value.int .i64 ts[k].id, .int .i64 ts[k].rate, .int .i64 ts[k].burst, .int .i64 ts[k].bucket, .bool ts[k].gone][j]? := fun j =>
            (hb'.cell (p := ⟨wr.heap.size, j, none⟩) (by simp)).trans (World.cell?_alloc_at _ _ _ _ rfl)
          exact not_ask ts[k] _ w.heap.size wr.heap.size i hi w' ((hb'.cell (p := ⟨w.heap.size, 0, none⟩) (by simp; omega)).trans ((World.cell?_alloc_past _ _ _ hltw).trans hlast)) (hx 0) (hx 1) (hx 2) (hx 3) (hx 4))
      rw [firstAt_ask] at hcall
      clear hcs
      have HLAST := Lib.hid hlast
      have HROW := Lib.hid hrow
      have HFZ := Lib.hid hfz
      have HOK := Lib.hid hok
      clear hlast hrow hfz hok
      by_cases hten : tenOk (lastId (ts.take k)) ts[k] = true
      · rw [hten] at hcall
        have HC := Lib.hid hcall
        have HTEN := Lib.hid hten
        clear hcall hten
        go_wp2_with (go_at_call 81; ((with_reducible refine HC.out.mono ?_); rintro e w2 ⟨rfl, hb2⟩; have c1 := (hb2.cell (p := ⟨wr.heap.size, 0, none⟩) (by simp)).trans (World.cell?_alloc_at _ _ _ _ rfl); have c2 := (hb2.cell (p := ⟨w.heap.size, 0, none⟩) (by simp; omega)).trans ((World.cell?_alloc_past _ _ _ hltw).trans HLAST.out); have c3 := (hb2.frozen (p := ⟨w.heap.size, 0, none⟩) (by simp; omega)).trans ((World.frozen?_alloc_past _ _ _ hltw).trans HFZ.out)))
        go_roundw
        case rel =>
          have hrow2 := (HROW.out.alloc (.cells #[.int .i64 ts[k].id, .int .i64 ts[k].rate, .int .i64 ts[k].burst, .int .i64 ts[k].bucket, .bool ts[k].gone] 55)).below hb2
          refine ⟨k + 1, by omega, by go_num, by rw [tensOk_take hlt, HOK.out, HTEN.out]; rfl, ?_, ?_, ?_, hrow2.setFar (by simp) _, ?_⟩
          · rw [lastId_take hlt]; exact World.cell?_setCell_same _ _ _ c2
          · rw [World.frozen?_setCell]; exact c3
          · have := hb2.size; simp at this; simp; omega
          · exact ((hb.alloc hb.size _).trans (hb2.mono (by simp; omega))).setCell (Nat.le_refl _) _
        case measure => simp [intOf]; omega
      · rw [Bool.not_eq_true] at hten
        rw [hten] at hcall
        have HC := Lib.hid hcall
        have HTEN := Lib.hid hten
        clear hcall hten
        go_wp2_with (go_at_call 81; ((with_reducible refine HC.out.mono ?_); rintro e w2 ⟨rfl, hb2⟩))
        go_returns
        exact ⟨ret_bool (tensOk_bad hlt HTEN.out).symm, (hb.alloc hb.size _).trans (hb2.mono (by simp; omega))⟩
    · have HOK := Lib.hid hok
      clear hok
      go_wp2
      go_returns
      exact ⟨ret_bool (by have := HOK.out; rw [List.take_of_length_le (by omega)] at this; exact this.symm), hb⟩
end Go.Proofs.Ytoofmofaimdhpaa

namespace Go.Proofs.Ytoofmofaimdhpaa
open Go.ChangeShapes Go.WideShapes Go.ChangeAt Go.RowKit
set_option maxRecDepth 100000

theorem el_tenants : Elem Try.prog 22 55 5 40 where
  under := Try.underlying22
  info := by
    have h : (Try.prog.info? 55).map (fun i => (i.zero, i.size, i.bytes)) = some (some (.agg #[.int .i64 0, .int .i64 0, .int .i64 0, .int .i64 0, .bool false]), 5, 40) := by kernel_rfl
    obtain ⟨i, hi, h0, h1, h2⟩ := info_parts h
    exact ⟨i, _, hi, h0, h1, h2, rfl⟩
  pos := by decide
  bpos := by decide
theorem tcells_len (t : Tenant) : (Tenant.cells t).length = 5 := rfl
theorem tcells_one (ts : List Tenant) : ∀ u ∈ ts.flatMap Tenant.cells, u.oneCell' = true := by
  intro u hu
  obtain ⟨t, _, ht⟩ := List.mem_flatMap.1 hu
  simp only [Tenant.cells, List.mem_cons, List.not_mem_nil, or_false] at ht
  rcases ht with rfl | rfl | rfl | rfl | rfl <;> rfl
theorem TRow.take {w : World} {a : Option Addr} {ts : List Tenant} (h : TRow w a ts) (k : Nat) : TRow w a (ts.take k) := by
  unfold TRow; rw [← flatMap_take tcells_len]; exact Row.take h _
theorem TRow.drop {w : World} {b o : Nat} {ts : List Tenant} (h : TRow w (some ⟨b, o, none⟩) ts) (k : Nat) : TRow w (some ⟨b, o + k * 5, none⟩) (ts.drop k) := by
  unfold TRow; rw [← flatMap_drop tcells_len]; exact Row.drop h _
theorem TRow.tail {w : World} {b o c k : Nat} {ts : List Tenant} (h : TRow w (some ⟨b, o, none⟩) ts) (hc : ts.length ≤ c) : TRow w (if c = k then some ⟨b, o, none⟩ else some ⟨b, o + k * 5, none⟩) (ts.drop k) := by
  split
  · rw [List.drop_eq_nil_of_le (by omega)]; exact .inl rfl
  · exact h.drop k
theorem TRow.tailO {w : World} {a : Option Addr} {c k : Nat} {ts : List Tenant} (h : TRow w a ts) (hc : ts.length ≤ c) : TRow w (if c = k then a else Option.map (fun x => x.add (k * 5)) a) (ts.drop k) := by
  by_cases hd : ts.drop k = []
  · rw [hd]; exact .inl rfl
  · have hk : k < ts.length := by
      rcases Nat.lt_or_ge k ts.length with h1 | h1
      · exact h1
      · exact absurd (List.drop_eq_nil_of_le h1) hd
    obtain ⟨b, o, rfl, _⟩ := h.at hk
    rw [if_neg (by omega)]
    have := h.drop k
    by_cases h0 : k = 0
    · subst h0; simpa [Addr.add] using this
    · have e : (⟨b, o, none⟩ : Addr).add (k * 5) = ⟨b, o + k * 5, none⟩ := by unfold Addr.add; rw [if_neg (by omega)]
      rw [Option.map_some, e]
      exact this
theorem TRow.below {w w' : World} {a : Option Addr} {ts : List Tenant} (h : TRow w a ts) (hb : Below w.heap.size w w') : TRow w' a ts := Row.below h hb
theorem TRow.length (ts : List Tenant) : (ts.flatMap Tenant.cells).length = ts.length * 5 := flatMap_len tcells_len ts

/-- A slice of tenants is what comes back. -/
def RetT (w : World) (src : Option Addr) (ts : List Tenant) (e : Ending) (w' : World) : Prop :=
  ∃ a c, e = .returned (.slice a ts.length c) ∧ ts.length ≤ c ∧ (a = none → c = 0) ∧ Near w.heap.size src a ∧ TRow w' a ts ∧ Below w.heap.size w w'

theorem place1_any (x : Tenant) (id : Int) (bl : Nat) (w : World) (hc : w.cell? ⟨bl, 0, none⟩ = some (.int .i64 id)) :
    Calls Try.prog 96 #[x.agg, .pointer (some ⟨bl, 0, none⟩)] w fun e w' => e = .returned (.bool (x.id == id)) ∧ Below w.heap.size w w' := by
  have hlt := World.block_lt_of_cell? w _ hc
  simp only at hlt
  go_enter Try.func96, Try.ntmps96
  go_wp2
  go_returns
  exact ⟨rfl, by go_grown⟩
theorem with1_any (x : Tenant) (id : Int) (bx : Nat) (w : World) (hc : w.cell? ⟨bx, 0, none⟩ = some (.int .i64 id)) :
    Calls Try.prog 98 #[x.agg, .pointer (some ⟨bx, 0, none⟩)] w fun e w' => e = .returned (.bool (decide (id < x.id))) ∧ Below w.heap.size w w' := by
  have hlt := World.block_lt_of_cell? w _ hc
  simp only at hlt
  go_enter Try.func98, Try.ntmps98
  go_wp2
  go_returns
  exact ⟨rfl, by go_grown⟩
theorem enter_place1 (args : Array Value) (w : World) : (callFunc 96 args).run Try.prog w = .ok (.enter 96 args) w := by kernel_rfl
theorem enter_with1 (args : Array Value) (w : World) : (callFunc 98 args).run Try.prog w = .ok (.enter 98 args) w := by kernel_rfl

theorem find_any (ts : List Tenant) (a : Option Addr) (n c : Nat) (fid : FuncId) (cap : Array Value) (p : Tenant → Bool) (w : World) (hn : ts.length = n) (hl : ts.length ≤ maxLen) (hr : TRow w a ts)
    (hcf : ∀ (args : Array Value) (w : World), (callFunc fid args).run Try.prog w = .ok (.enter fid args) w)
    (hf : ∀ t ∈ ts, ∀ w', Below w.heap.size w w' → Calls Try.prog fid (#[t.agg] ++ cap) w' fun e w'' => e = .returned (.bool (p t)) ∧ Below w'.heap.size w' w'') :
    Calls Try.prog 95 #[.slice a n c, .func (.func fid) #[] cap] w fun e w' => e = .returned (.int .i64 (idx p ts)) ∧ Below w.heap.size w w' := by
  have HF := Lib.hid hf
  have HCF := Lib.hid hcf
  clear hf hcf
  go_enter Try.func95, Try.ntmps95
  go_wp2_with (go_at_call 83; ((with_reducible refine (indexFunc_any ts _ _ _ _ _ p _ hn hl hr HCF.out HF.out).mono ?_); rintro e w' ⟨rfl, hb⟩))
  go_returns
  exact ⟨rfl, hb⟩

theorem place_any (ts : List Tenant) (a : Option Addr) (n c : Nat) (id : Int) (w : World) (hn : ts.length = n) (hl : ts.length ≤ maxLen) (hr : TRow w a ts) :
    Calls Try.prog 67 #[.slice a n c, .int .i64 id] w fun e w' => e = .returned (.int .i64 (idx (fun x => x.id == id) ts)) ∧ Below w.heap.size w w' := by
  have hcall := find_any ts a n c 96 #[.pointer (some ⟨w.heap.size, 0, none⟩)] (fun x => x.id == id) (w.alloc (.cells #[.int .i64 id] 3)) hn hl (Row.alloc hr _) enter_place1
    (fun t _ w' hb => place1_any t id _ w' ((hb.cell (p := ⟨w.heap.size, 0, none⟩) (by simp)).trans (World.cell?_alloc_at _ _ _ _ rfl)))
  have HC := Lib.hid hcall
  clear hcall
  go_enter Try.func67, Try.ntmps67
  go_wp2_with (go_at_call 95; ((with_reducible refine HC.out.mono ?_); rintro e w' ⟨rfl, hb⟩))
  go_returns
  exact ⟨rfl, ((Below.refl _ _).alloc (Nat.le_refl _) _).trans (hb.mono (by simp))⟩
end Go.Proofs.Ytoofmofaimdhpaa

namespace Go.Proofs.Ytoofmofaimdhpaa
open Go.ChangeShapes Go.WideShapes Go.ChangeAt Go.RowKit
set_option maxRecDepth 100000

/-- slices.Clone: the same tenants in a row that may be written. -/
def RetOwn (w : World) (ts : List Tenant) (e : Ending) (w' : World) : Prop :=
  ∃ a c, e = .returned (.slice a ts.length c) ∧ Near w.heap.size none a ∧ Can w' w.heap.size 55 5 a ts.length c (ts.flatMap Tenant.cells) ∧ (ts ≠ [] → w'.ownsRow w.heap.size 55 5 (.slice a ts.length c) ts.length (ts.flatMap Tenant.cells)) ∧ Below w.heap.size w w'

theorem clone_any (ts : List Tenant) (a : Option Addr) (n c : Nat) (w : World) (hn : ts.length = n) (hl : ts.length ≤ 1000) (hc : a = none → c = 0) (hnc : n ≤ c) (hr : TRow w a ts) :
    Calls Try.prog 63 #[.slice a n c] w (RetOwn w ts) := by
  subst hn
  cases a with
  | none =>
    obtain rfl := hc rfl
    have h0 : ts.length = 0 := by omega
    obtain rfl : ts = [] := List.eq_nil_of_length_eq_zero h0
    go_enter Try.func63, Try.ntmps63
    have hnil := Lib.run_eql_slice_nil (P := Try.prog) w 22 55 none 0 0 0 0 Try.underlying22
    go_wp2
    go_returns
    exact ⟨none, 0, rfl, Near.nil _ _, Can.nil _ _ _ _, fun h => absurd rfl h, Below.refl _ _⟩
  | some x =>
    go_enter Try.func63, Try.ntmps63
    have hnil := Lib.run_eql_slice_nil (P := Try.prog) w 22 55 (some x) ts.length c 0 0 Try.underlying22
    go_wp2_with (at_builtin; refine wpList_can el_tenants rfl _ _ rfl w.heap.size _ 0 _ _ rfl (Can.empty _ _ _ _ _) _ ts.length _ (ts.flatMap Tenant.cells) rfl (TRow.length _) (Row.alloc hr _) (tcells_one _) (by omega) (by simp) ?_; intro a' c' w3 hcan3 _ hb3 hown)
    go_returns
    rw [Nat.zero_add, List.nil_append] at hcan3 hown
    have hnear : Near w.heap.size none a' := by
      by_cases h0 : 0 < ts.length
      · exact Near.own (hown.1 h0) (Nat.le_refl _)
      · rw [(hown.2 (by omega)).1]
        intro b o s hb
        simp at hb
        exact .inl (by omega)
    refine ⟨a', c', rfl, hnear, hcan3, fun h => hown.1 (List.length_pos_iff.2 h), ((Below.refl _ _).alloc (Nat.le_refl _) _).trans hb3⟩

theorem without_any (ts : List Tenant) (a : Option Addr) (n c : Nat) (id : Int) (w : World) (hn : ts.length = n) (hl : ts.length ≤ 1000) (hc : a = none → c = 0) (hnc : n ≤ c) (hr : TRow w a ts) :
    Calls Try.prog 97 #[.slice a n c, .int .i64 id] w (RetT w a (withoutL id ts)) := by
  subst hn
  have hmax : ts.length ≤ maxLen := le_maxLen (by omega)
  cases hf : ts.findIdx? (fun x => x.id == id) with
  | none =>
    have HP : Hid (idx (fun x => x.id == id) ts = -1) := by show idx _ _ = _; unfold idx; rw [hf]
    have HW : Hid (withoutL id ts = ts) := by show withoutL _ _ = _; unfold withoutL; rw [hf]
    clear hf
    go_enter Try.func97, Try.ntmps97
    go_wp2_with (first
      | (go_at_call 67; ((with_reducible refine (place_any ts _ _ _ _ _ rfl hmax hr).mono ?_); rw [HP.out]; rintro e w2 ⟨rfl, hb⟩))
      | (go_at_call 63; ((with_reducible refine (clone_any ts _ _ _ _ rfl hl hc hnc (hr.below hb)).mono ?_); rintro e w3 ⟨a', c', rfl, hnear, hcan, _, hb2⟩)))
    go_returns
    exact ⟨a', c', by rw [HW.out]; rfl, by rw [HW.out]; exact hcan.le, hcan.none (by decide), fun b o s h => .inl (Nat.le_trans hb.size (by rcases hnear b o s h with h1 | ⟨_, _, h1⟩; exact h1; cases h1)), by rw [HW.out]; exact hcan.row, hb.trans (hb2.mono hb.size)⟩
  | some k =>
    have hk : k < ts.length := (List.findIdx?_eq_some_iff_getElem.1 hf).1
    have HP : Hid (idx (fun x => x.id == id) ts = (k : Int)) := by show idx _ _ = _; unfold idx; rw [hf]
    have HW : Hid (withoutL id ts = ts.take k ++ ts.drop (k + 1)) := by show withoutL _ _ = _; unfold withoutL; rw [hf]
    clear hf
    go_enter Try.func97, Try.ntmps97
    go_wp2_with (go_at_call 67; ((with_reducible refine (place_any ts _ _ _ _ _ rfl hmax hr).mono ?_); rw [HP.out]; rintro e w2 ⟨rfl, hb⟩))
    have hrun1 : IntKind.i64.wrap ((k : Int) + 1) = (k : Int) + 1 := IntWalk.i64_in _ ⟨by omega, by omega⟩
    obtain ⟨b, o, rfl, _⟩ := hr.at hk
    have k0 : (0 : Int) ≤ (k : Int) := by omega
    have k1 : (k : Int) ≤ (c : Int) := by omega
    have k2 : (0 : Int) ≤ (k : Int) + 1 := by omega
    have k3 : (k : Int) + 1 ≤ (ts.length : Int) := by omega
    have k4 : ((k : Int) + 1).toNat = k + 1 := by omega
    go_still_tail 8, (by kernel_rfl)
    change wpList _ _ _ _ _ w2.drew
    clear k0 k1 k2 k3 k4 hrun1
    have hr2 : TRow w2.drew (some ⟨b, o, none⟩) ts := hr.below hb.drew
    have htl := hr2.tail (k := k + 1) hnc
    have hcan := Can.full (B := w.heap.size) (e := 55) (size := 5) (n := k) (hr2.take k) (by rw [TRow.length, List.length_take]; congr 1; omega) (le_maxLen (by omega))
    generalize (if c = k + 1 then some (⟨b, o, none⟩ : Addr) else some ⟨b, o + (k + 1) * 5, none⟩) = ad at htl ⊢
    refine wpList_can el_tenants rfl _ _ rfl w.heap.size _ k k _ rfl hcan ad (ts.length - (k + 1)) _ ((ts.drop (k + 1)).flatMap Tenant.cells) rfl (by rw [TRow.length, List.length_drop]) htl (tcells_one _) (by omega) hb.size ?_
    intro a' c' w3 hcan3 _ hb3 hown3
    have hlen : k + (ts.length - (k + 1)) = (withoutL id ts).length := by rw [HW.out]; simp; omega
    have HL := Lib.hid hlen
    clear hlen hr2 htl hcan
    go_wp2_with fail
    go_returns
    have hnear : Near w.heap.size (some ⟨b, o, none⟩) a' := by
      by_cases h0 : 0 < ts.length - (k + 1)
      · exact Near.own (hown3.1 h0) (Nat.le_refl _)
      · rw [(hown3.2 (by omega)).1]; exact Near.self _ _
    refine ⟨a', c', by rw [HL.out]; rfl, by rw [← HL.out]; exact hcan3.le, hcan3.none (by decide), hnear, ?_, (hb.drew).trans hb3⟩
    have h3 := hcan3.row
    rw [← List.flatMap_append, ← HW.out] at h3
    exact h3
end Go.Proofs.Ytoofmofaimdhpaa

namespace Go.Proofs.Ytoofmofaimdhpaa
open Go.ChangeShapes Go.WideShapes Go.ChangeAt Go.RowKit
set_option maxRecDepth 100000

theorem withoutL_le (id : Int) (ts : List Tenant) : (withoutL id ts).length ≤ ts.length := by
  unfold withoutL; split
  · simp; omega
  · exact Nat.le_refl _
theorem putAt_le (x : Tenant) (ts : List Tenant) : putAt x ts ≤ ts.length := by
  unfold putAt; split
  · rename_i k h; exact Nat.le_of_lt (List.findIdx?_eq_some_iff_getElem.1 h).1
  · exact Nat.le_refl _
theorem xcells_at {w : World} {x : Tenant} : ∀ w', Below (w.alloc (.cells #[.int .i64 x.id, .int .i64 x.rate, .int .i64 x.burst, .int .i64 x.bucket, .bool x.gone] 55)).heap.size (w.alloc (.cells #[.int .i64 x.id, .int .i64 x.rate, .int .i64 x.burst, .int .i64 x.bucket, .bool x.gone] 55)) w' →
    w'.cell? ⟨w.heap.size, 0, none⟩ = some (.int .i64 x.id) ∧ w'.cell? ⟨w.heap.size, 1, none⟩ = some (.int .i64 x.rate) ∧ w'.cell? ⟨w.heap.size, 2, none⟩ = some (.int .i64 x.burst) ∧ w'.cell? ⟨w.heap.size, 3, none⟩ = some (.int .i64 x.bucket) ∧ w'.cell? ⟨w.heap.size, 4, none⟩ = some (.bool x.gone) := by
  intro w' hb
  have h := fun j => (hb.cell (p := ⟨w.heap.size, j, none⟩) (by simp)).trans (World.cell?_alloc_at _ _ _ j rfl)
  exact ⟨h 0, h 1, h 2, h 3, h 4⟩

set_option maxHeartbeats 1000000 in
theorem with_any (ts : List Tenant) (a : Option Addr) (n c : Nat) (x : Tenant) (w : World) (hn : ts.length = n) (hl : ts.length ≤ 1000) (hc : a = none → c = 0) (hnc : n ≤ c) (hr : TRow w a ts) :
    Calls Try.prog 69 #[.slice a n c, x.agg] w (RetT w none (withL x ts)) := by
  subst hn
  have hx := xcells_at (w := w) (x := x)
  have HX := Lib.hid hx
  clear hx
  have hle := withoutL_le x.id ts
  have hle2 := putAt_le x (withoutL x.id ts)
  have hr1 : TRow (w.alloc (.cells #[.int .i64 x.id, .int .i64 x.rate, .int .i64 x.burst, .int .i64 x.bucket, .bool x.gone] 55)) a ts := Row.alloc hr _
  have HW : Hid (withL x ts = (withoutL x.id ts).take (putAt x (withoutL x.id ts)) ++ x :: (withoutL x.id ts).drop (putAt x (withoutL x.id ts))) := rfl
  generalize withL x ts = out at HW ⊢
  generalize hts : withoutL x.id ts = l2 at hle hle2 HW
  have HTS := Lib.hid hts
  clear hts
  obtain ⟨r, q, hidx, hput, hrq⟩ : ∃ (r : Int) (q : Nat), idx (fun y => decide (x.id < y.id)) l2 = r ∧ putAt x l2 = q ∧ (r = q ∨ (r = -1 ∧ q = l2.length)) := by
    unfold idx putAt
    cases hf : l2.findIdx? (fun y => decide (x.id < y.id)) with
    | none => exact ⟨-1, l2.length, rfl, rfl, .inr ⟨rfl, rfl⟩⟩
    | some k => exact ⟨k, k, rfl, rfl, .inl rfl⟩
  rw [hput] at hle2 HW
  have HIDX := Lib.hid hidx
  clear hput hidx
  have hmid : Hid (∀ w2 a2 c2, l2.length ≤ c2 → TRow w2 a2 l2 → (∀ w', Below w2.heap.size w2 w' → w'.cell? ⟨w.heap.size, 0, none⟩ = some (.int .i64 x.id)) →
      Calls Try.prog 95 #[.slice a2 l2.length c2, .func (.func 98) #[] #[.pointer (some ⟨w.heap.size, 0, none⟩)]] w2 fun e w' => e = .returned (.int .i64 r) ∧ Below w2.heap.size w2 w') := by
    intro w2 a2 c2 h1 h2 h3
    have := find_any l2 a2 _ c2 98 #[.pointer (some ⟨w.heap.size, 0, none⟩)] (fun y => decide (x.id < y.id)) w2 rfl (le_maxLen (by omega)) h2 enter_with1
      (fun t _ w' hb => with1_any t x.id _ w' (h3 w' hb))
    rw [HIDX.out] at this
    exact this
  rcases hrq with rfl | ⟨rfl, rfl⟩
  · go_enter Try.func69, Try.ntmps69
    go_wp2_with (first
      | (go_at_call 97; ((with_reducible refine (without_any ts _ _ _ _ _ rfl hl hc hnc hr1).mono ?_); rw [HTS.out]; rintro e w2 ⟨a2, c2, rfl, hnc2, _, _, hr2, hb2⟩; obtain ⟨x0, x1, x2, x3, x4⟩ := HX.out _ hb2))
      | (go_at_call 95; ((with_reducible refine (hmid.out _ _ _ hnc2 hr2 (fun w' hb => (HX.out _ (hb2.trans (hb.mono hb2.size))).1)).mono ?_); rintro e w3 ⟨rfl, hb3⟩; have hb23 := hb2.trans (hb3.mono hb2.size); obtain ⟨x0, x1, x2, x3, x4⟩ := HX.out _ hb23)))
    have hr3 : TRow w3 a2 l2 := hr2.below hb3
    have k0 : (0 : Int) ≤ (q : Int) := by omega
    have k1 : (q : Int) ≤ (c2 : Int) := by omega
    have k3 : (q : Int) ≤ (l2.length : Int) := by omega
    go_region_held3 (fun w' => w'.cell? ⟨w.heap.size, 0, none⟩ = some (.int .i64 x.id) ∧ w'.cell? ⟨w.heap.size, 1, none⟩ = some (.int .i64 x.rate) ∧ w'.cell? ⟨w.heap.size, 2, none⟩ = some (.int .i64 x.burst) ∧ w'.cell? ⟨w.heap.size, 3, none⟩ = some (.int .i64 x.bucket) ∧ w'.cell? ⟨w.heap.size, 4, none⟩ = some (.bool x.gone)) ((refine HX.out _ ?_; first | exact hb23 | exact hb23.drew | exact (hb23.alloc hb23.size _).drew | exact hb34 | exact hb35))
      (first
        | (refine step_can el_tenants rfl (.tmp 20) (.tmp 22) rfl w3.heap.size a2 q q ((l2.take q).flatMap Tenant.cells) rfl (Can.drew (Can.full (Row.alloc (hr3.take q) _) (by rw [TRow.length, List.length_take]; congr 1; omega) (le_maxLen (by omega)))) (some ⟨w3.heap.size, 0, none⟩) 1 1 x.cells rfl rfl (Row.drew (Row.new _ _ _ _)) (by intro u hu; simp at hu; rcases hu with rfl | rfl | rfl | rfl | rfl <;> rfl) (by omega) (by simp) ?_; intro a4 c4 w4 hcan4 _ hb4 hown4; have HO4 := Lib.hid hown4; clear hown4; have hb34 := ((hb23.alloc hb23.size (.cells #[.int .i64 x.id, .int .i64 x.rate, .int .i64 x.burst, .int .i64 x.bucket, .bool x.gone] 55)).drew).trans (hb4.mono hb23.size))
        | (go_must (refine step_can el_tenants rfl (.tmp 23) (.tmp 26) rfl w3.heap.size a4 (q + 1) c4 _ rfl hcan4 _ (l2.length - q) _ ((l2.drop q).flatMap Tenant.cells) rfl (by rw [TRow.length, List.length_drop]) (TRow.tailO (hr3.below (((Below.refl _ _).alloc (Nat.le_refl _) (.cells #[.int .i64 x.id, .int .i64 x.rate, .int .i64 x.burst, .int .i64 x.bucket, .bool x.gone] 55)).drew.trans hb4)) hnc2) (tcells_one _) (by omega) (by have := hb4.size; simp at this; omega) ?_; intro a5 c5 w5 hcan5 _ hb5 hown5; have HO5 := Lib.hid hown5; clear hown5; have hb35 := hb34.trans (hb5.mono hb23.size))))
    clear k0 k1 k3
    generalize (if c2 = q then a2 else Option.map (fun x => x.add (q * 5)) a2) = ad
    have HL : Hid (∀ m, m = l2.length - q → q + 1 + m = out.length) := by intro m hm; subst hm; rw [HW.out]; simp; omega
    go_wp2_with fail
    go_returns
    have hle3 : w.heap.size ≤ w3.heap.size := by have := hb23.size; simp at this; omega
    have hnear : Near w.heap.size none a5 := by
      by_cases h0 : 0 < l2.length - q
      · exact Near.own (HO5.out.1 h0) hle3
      · rw [(HO5.out.2 (by omega)).1]; exact Near.own (HO4.out.1 (by omega)) hle3
    refine ⟨a5, c5, by rw [← HL.out (l2.length - q) rfl]; rfl, by rw [← HL.out (l2.length - q) rfl]; exact hcan5.le, hcan5.none (by decide), hnear, ?_, (((Below.refl _ _).alloc (Nat.le_refl _) _).trans (hb35.mono (by simp)))⟩
    have h5 := hcan5.row
    have e : (l2.take q).flatMap Tenant.cells ++ x.cells ++ (l2.drop q).flatMap Tenant.cells = out.flatMap Tenant.cells := by
      rw [HW.out, List.flatMap_append, List.flatMap_cons, List.append_assoc]
    rw [e] at h5
    exact h5
  · go_enter Try.func69, Try.ntmps69
    go_wp2_with (first
      | (go_at_call 97; ((with_reducible refine (without_any ts _ _ _ _ _ rfl hl hc hnc hr1).mono ?_); rw [HTS.out]; rintro e w2 ⟨a2, c2, rfl, hnc2, _, _, hr2, hb2⟩; obtain ⟨x0, x1, x2, x3, x4⟩ := HX.out _ hb2))
      | (go_at_call 95; ((with_reducible refine (hmid.out _ _ _ hnc2 hr2 (fun w' hb => (HX.out _ (hb2.trans (hb.mono hb2.size))).1)).mono ?_); rintro e w3 ⟨rfl, hb3⟩; have hb23 := hb2.trans (hb3.mono hb2.size); obtain ⟨x0, x1, x2, x3, x4⟩ := HX.out _ hb23)))
    have hr3 : TRow w3 a2 l2 := hr2.below hb3
    have k0 : (0 : Int) ≤ (l2.length : Int) := by omega
    have k1 : (l2.length : Int) ≤ (c2 : Int) := by omega
    have k3 : (l2.length : Int) ≤ (l2.length : Int) := by omega
    go_region_held3 (fun w' => w'.cell? ⟨w.heap.size, 0, none⟩ = some (.int .i64 x.id) ∧ w'.cell? ⟨w.heap.size, 1, none⟩ = some (.int .i64 x.rate) ∧ w'.cell? ⟨w.heap.size, 2, none⟩ = some (.int .i64 x.burst) ∧ w'.cell? ⟨w.heap.size, 3, none⟩ = some (.int .i64 x.bucket) ∧ w'.cell? ⟨w.heap.size, 4, none⟩ = some (.bool x.gone)) ((refine HX.out _ ?_; first | exact hb23 | exact hb23.drew | exact (hb23.alloc hb23.size _).drew | exact hb34 | exact hb35))
      (first
        | (refine step_can el_tenants rfl (.tmp 20) (.tmp 22) rfl w3.heap.size a2 l2.length l2.length ((l2.take l2.length).flatMap Tenant.cells) rfl (Can.drew (Can.full (Row.alloc (hr3.take l2.length) _) (by rw [TRow.length, List.length_take]; simp) (le_maxLen (by omega)))) (some ⟨w3.heap.size, 0, none⟩) 1 1 x.cells rfl rfl (Row.drew (Row.new _ _ _ _)) (by intro u hu; simp at hu; rcases hu with rfl | rfl | rfl | rfl | rfl <;> rfl) (by omega) (by simp) ?_; intro a4 c4 w4 hcan4 _ hb4 hown4; have HO4 := Lib.hid hown4; clear hown4; have hb34 := ((hb23.alloc hb23.size (.cells #[.int .i64 x.id, .int .i64 x.rate, .int .i64 x.burst, .int .i64 x.bucket, .bool x.gone] 55)).drew).trans (hb4.mono hb23.size))
        | (go_must (refine step_can el_tenants rfl (.tmp 23) (.tmp 26) rfl w3.heap.size a4 (l2.length + 1) c4 _ rfl hcan4 _ 0 _ ((l2.drop l2.length).flatMap Tenant.cells) rfl (by rw [List.drop_length]; first | done | rfl) (TRow.tailO (hr3.below (((Below.refl _ _).alloc (Nat.le_refl _) (.cells #[.int .i64 x.id, .int .i64 x.rate, .int .i64 x.burst, .int .i64 x.bucket, .bool x.gone] 55)).drew.trans hb4)) hnc2) (tcells_one _) (by omega) (by have := hb4.size; simp at this; omega) ?_; intro a5 c5 w5 hcan5 _ hb5 hown5; have HO5 := Lib.hid hown5; clear hown5; have hb35 := hb34.trans (hb5.mono hb23.size))))
    clear k0 k1 k3
    generalize (if c2 = l2.length then a2 else Option.map (fun x => x.add (l2.length * 5)) a2) = ad
    have HL : Hid (∀ m, m = l2.length - l2.length → l2.length + 1 + m = out.length) := by intro m hm; subst hm; rw [HW.out]; simp
    go_wp2_with fail
    go_returns
    have hle3 : w.heap.size ≤ w3.heap.size := by have := hb23.size; simp at this; omega
    have hnear : Near w.heap.size none a5 := by
      rw [(HO5.out.2 (by simp)).1]; exact Near.own (HO4.out.1 (by omega)) hle3
    refine ⟨a5, c5, by rw [← HL.out 0 (by simp)]; rfl, by rw [← HL.out 0 (by simp)]; exact hcan5.le, hcan5.none (by decide), hnear, ?_, (((Below.refl _ _).alloc (Nat.le_refl _) _).trans (hb35.mono (by simp)))⟩
    have h5 := hcan5.row
    have e : (l2.take l2.length).flatMap Tenant.cells ++ x.cells ++ (l2.drop l2.length).flatMap Tenant.cells = out.flatMap Tenant.cells := by
      rw [HW.out, List.flatMap_append, List.flatMap_cons, List.append_assoc]
    rw [e] at h5
    exact h5
end Go.Proofs.Ytoofmofaimdhpaa

namespace Go.Proofs.Ytoofmofaimdhpaa
open Go.ChangeShapes Go.WideShapes Go.ChangeAt Go.RowKit
set_option maxRecDepth 100000

def RetTA (w : World) (src : Option Addr) (r : List Tenant × Ans) (e : Ending) (w' : World) : Prop :=
  ∃ a c, e = .returned (.tuple #[.slice a r.1.length c, r.2.agg]) ∧ r.1.length ≤ c ∧ (a = none → c = 0) ∧ Near w.heap.size src a ∧ TRow w' a r.1 ∧ Below w.heap.size w w'
def RetTF (w : World) (r : Tenant × Bool) (e : Ending) (w' : World) : Prop := e = .returned (.tuple #[r.1.agg, .bool r.2]) ∧ Below w.heap.size w w'
def RetA (w : World) (r : Ans) (e : Ending) (w' : World) : Prop := e = .returned r.agg ∧ Below w.heap.size w w'

theorem set5 {B : Nat} {w w' : World} (h : Below B w w') {g : Nat} (hg : B ≤ g) (v0 v1 v2 v3 v4 : Value) :
    Below B w (((((w'.setCell ⟨g, 0, none⟩ v0).setCell ⟨g, 1, none⟩ v1).setCell ⟨g, 2, none⟩ v2).setCell ⟨g, 3, none⟩ v3).setCell ⟨g, 4, none⟩ v4) :=
  ((((h.setCell hg _).setCell hg _).setCell hg _).setCell hg _).setCell hg _
theorem Row.set5 {w : World} {a : Option Addr} {xs : List Value} (h : Row w a xs) {g : Nat} (hg : ∀ b o s, a = some ⟨b, o, s⟩ → b ≠ g) (v0 v1 v2 v3 v4 : Value) :
    Row (((((w.setCell ⟨g, 0, none⟩ v0).setCell ⟨g, 1, none⟩ v1).setCell ⟨g, 2, none⟩ v2).setCell ⟨g, 3, none⟩ v3).setCell ⟨g, 4, none⟩ v4) a xs :=
  ((((h.setOther hg _).setOther hg _).setOther hg _).setOther hg _).setOther hg _
theorem Near.ne {B g : Nat} {a : Option Addr} (h : Near B none a) (hg : g < B) : ∀ b o s, a = some ⟨b, o, s⟩ → b ≠ g := fun b o s ha => by
  rcases h b o s ha with h1 | ⟨_, _, h1⟩
  · omega
  · cases h1

theorem pfind_any (ts : List Tenant) (a : Option Addr) (n c : Nat) (id : Int) (w : World) (hn : ts.length = n) (hl : ts.length ≤ maxLen) (hr : TRow w a ts) :
    Calls Try.prog 32 #[.slice a n c, .int .i64 id] w (RetTF w (findT ts id)) := by
  subst hn
  have hl2 := lt_maxLen hl
  cases hf : ts.findIdx? (fun x => x.id == id) with
  | none =>
    have HP : Hid (idx (fun x => x.id == id) ts = -1) := by show idx _ _ = _; unfold idx; rw [hf]
    have HW : Hid (findT ts id = (zeroT, false)) := by show findT _ _ = _; unfold findT; rw [hf]
    clear hf
    go_enter Try.func32, Try.ntmps32
    go_wp2_with (go_at_call 67; ((with_reducible refine (place_any ts _ _ _ _ _ rfl hl (Row.alloc hr _)).mono ?_); rw [HP.out]; rintro e w2 ⟨rfl, hb⟩; have hcl := own_cells hb; have hfz := own_frozen hb))
    (try simp only [Exit.inBlock, Exit.then])
    refine bodyPost_ret (v := .tuple #[zeroT.agg, .bool false]) (by simp [results, Try.results32, go_sem, hcl, zeroT]) rfl ?_
    exact ⟨by rw [HW.out], (((Below.refl _ _).alloc (Nat.le_refl _) _).trans (hb.mono (by simp))).setCell (Nat.le_refl _) _ |>.setCell (Nat.le_refl _) _ |>.setCell (Nat.le_refl _) _ |>.setCell (Nat.le_refl _) _ |>.setCell (Nat.le_refl _) _⟩
  | some k =>
    have hk : k < ts.length := (List.findIdx?_eq_some_iff_getElem.1 hf).1
    have HP : Hid (idx (fun x => x.id == id) ts = (k : Int)) := by show idx _ _ = _; unfold idx; rw [hf]
    have HW : Hid (findT ts id = if tensOk 0 ts then (ts[k]?.getD zeroT, true) else (zeroT, false)) := by show findT _ _ = _; unfold findT; rw [hf]
    clear hf
    obtain ⟨b, o, rfl, hcs⟩ := hr.at hk
    have HCS := Lib.hid hcs
    clear hcs
    cases ht : tensOk 0 ts with
    | false =>
      have HT := Lib.hid ht
      clear ht
      go_enter Try.func32, Try.ntmps32
      go_wp2_with (first
        | (go_at_call 67; ((with_reducible refine (place_any ts _ _ _ _ _ rfl hl (Row.alloc hr _)).mono ?_); rw [HP.out]; rintro e w2 ⟨rfl, hb⟩))
        | (go_at_call 46; ((with_reducible refine (check_any ts _ _ _ _ rfl hl ((Row.alloc hr _).below hb)).mono ?_); rw [HT.out]; rintro e w3 ⟨rfl, hb3⟩; have hb4 := hb.trans (hb3.mono hb.size); have hcl := own_cells hb4; have hfz := own_frozen hb4)))
      (try simp only [Exit.inBlock, Exit.then])
      refine bodyPost_ret (v := .tuple #[zeroT.agg, .bool false]) (by simp [results, Try.results32, go_sem, hcl, zeroT]) rfl ?_
      exact ⟨by rw [HW.out, HT.out]; rfl, (((Below.refl _ _).alloc (Nat.le_refl _) _).trans (hb4.mono (by simp))).setCell (Nat.le_refl _) _ |>.setCell (Nat.le_refl _) _ |>.setCell (Nat.le_refl _) _ |>.setCell (Nat.le_refl _) _ |>.setCell (Nat.le_refl _) _⟩
    | true =>
      have HT := Lib.hid ht
      clear ht
      have hx : ts[k]? = some ts[k] := List.getElem?_eq_getElem hk
      have HX := Lib.hid hx
      clear hx
      go_enter Try.func32, Try.ntmps32
      go_wp2_with (first
        | (go_at_call 67; ((with_reducible refine (place_any ts _ _ _ _ _ rfl hl (Row.alloc hr _)).mono ?_); rw [HP.out]; rintro e w2 ⟨rfl, hb⟩))
        | (go_at_call 46; ((with_reducible refine (check_any ts _ _ _ _ rfl hl ((Row.alloc hr _).below hb)).mono ?_); rw [HT.out]; rintro e w3 ⟨rfl, hb3⟩; have hb4 := hb.trans (hb3.mono hb.size); have hcl := own_cells hb4; have hfz := own_frozen hb4; have hb5 := ((Below.refl w.heap.size w).alloc (Nat.le_refl _) _).trans (hb4.mono (by simp)); obtain ⟨h0, h1, h2, h3, h4⟩ := HCS.out _ hb5)))
      (try simp only [Exit.inBlock, Exit.then])
      refine bodyPost_ret (v := .tuple #[ts[k].agg, .bool true]) (by simp [results, Try.results32, go_sem, hcl]) rfl ?_
      exact ⟨by rw [HW.out, HT.out, HX.out]; rfl, hb5.setCell (Nat.le_refl _) _ |>.setCell (Nat.le_refl _) _ |>.setCell (Nat.le_refl _) _ |>.setCell (Nat.le_refl _) _ |>.setCell (Nat.le_refl _) _⟩
end Go.Proofs.Ytoofmofaimdhpaa
