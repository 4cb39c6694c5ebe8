import Derived.Test.YtnpbajmpenpnbaaWith
import Derived.WalkSpells
namespace Go.Proofs.Ytnpbajmpenpnbaa
open Go.ChangeShapes Go.WideShapes Go.ChangeAt Go.RowKit

/-- slices.Clone: the same tenants in a row that may be written. -/
def RetOwn (w : World) (ts : List Tenant) (e : Ending) (w' : World) : Prop :=
  ∃ a c, e = .returned (.slice a ts.length c) ∧ Near w.heap.size none a ∧ Can w' w.heap.size 38 5 a ts.length c (ts.flatMap Tenant.cells) ∧ (ts ≠ [] → w'.ownsRow w.heap.size 38 5 (.slice a ts.length c) ts.length (ts.flatMap Tenant.cells)) ∧ Below w.heap.size w w'

theorem clone_any (ts : List Tenant) (a : Option Addr) (n c : Nat) (w : World) (hn : ts.length = n) (hl : ts.length ≤ 1000) (hc : a = none → c = 0) (hnc : n ≤ c) (hr : TRow w a ts) :
    Calls Try.prog 42 #[.slice a n c] w (RetOwn w ts) := by
  subst hn
  cases a with
  | none =>
    obtain rfl := hc rfl
    have h0 : ts.length = 0 := by omega
    obtain rfl : ts = [] := List.eq_nil_of_length_eq_zero h0
    go_enter Try.func42, Try.ntmps42
    have hnil := Lib.run_eql_slice_nil (P := Try.prog) w 22 38 none 0 0 0 0 Try.underlying22
    go_wp2
    go_returns
    exact ⟨none, 0, rfl, Near.nil _ _, Can.nil _ _ _ _, fun h => absurd rfl h, Below.refl _ _⟩
  | some x =>
    go_enter Try.func42, Try.ntmps42
    have hnil := Lib.run_eql_slice_nil (P := Try.prog) w 22 38 (some x) ts.length c 0 0 Try.underlying22
    go_wp2_with (at_builtin; refine wpList_can el_tenants rfl _ _ rfl w.heap.size _ 0 _ _ rfl (Can.empty _ _ _ _ _) _ ts.length _ (ts.flatMap Tenant.cells) rfl (TRow.length _) (Row.alloc hr _) (tcells_one _) (by omega) (by simp) ?_; intro a' c' w3 hcan3 _ hb3 hown)
    go_returns
    rw [Nat.zero_add, List.nil_append] at hcan3 hown
    have hnear : Near w.heap.size none a' := by
      by_cases h0 : 0 < ts.length
      · exact Near.own (hown.1 h0) (Nat.le_refl _)
      · rw [(hown.2 (by omega)).1]
        intro b o s hb
        simp at hb
        exact .inl (by omega)
    refine ⟨a', c', rfl, hnear, hcan3, fun h => hown.1 (List.length_pos_iff.2 h), ((Below.refl _ _).alloc (Nat.le_refl _) _).trans hb3⟩

theorem without_any (ts : List Tenant) (a : Option Addr) (n c : Nat) (id : Int) (w : World) (hn : ts.length = n) (hl : ts.length ≤ 1000) (hc : a = none → c = 0) (hnc : n ≤ c) (hr : TRow w a ts) :
    Calls Try.prog 38 #[.slice a n c, .int .i64 id] w (RetT w a (withoutL id ts)) := by
  subst hn
  have hmax : ts.length ≤ maxLen := le_maxLen (by omega)
  cases hf : ts.findIdx? (fun x => x.id == id) with
  | none =>
    have HP : Hid (idx (fun x => x.id == id) ts = -1) := by show idx _ _ = _; unfold idx; rw [hf]
    have HW : Hid (withoutL id ts = ts) := by show withoutL _ _ = _; unfold withoutL; rw [hf]
    clear hf
    go_enter Try.func38, Try.ntmps38
    go_wp2_with (first
      | (go_at_call 40; ((with_reducible refine (place_any ts _ _ _ _ _ rfl hmax hr).mono ?_); rw [HP.out]; rintro e w2 ⟨rfl, hb⟩))
      | (go_at_call 42; ((with_reducible refine (clone_any ts _ _ _ _ rfl hl hc hnc (hr.below hb)).mono ?_); rintro e w3 ⟨a', c', rfl, hnear, hcan, _, hb2⟩)))
    go_returns
    exact ⟨a', c', by rw [HW.out]; rfl, by rw [HW.out]; exact hcan.le, hcan.none (by decide), fun b o s h => .inl (Nat.le_trans hb.size (by rcases hnear b o s h with h1 | ⟨_, _, h1⟩; exact h1; cases h1)), by rw [HW.out]; exact hcan.row, hb.trans (hb2.mono hb.size)⟩
  | some k =>
    have hk : k < ts.length := (List.findIdx?_eq_some_iff_getElem.1 hf).1
    have HP : Hid (idx (fun x => x.id == id) ts = (k : Int)) := by show idx _ _ = _; unfold idx; rw [hf]
    have HW : Hid (withoutL id ts = ts.take k ++ ts.drop (k + 1)) := by show withoutL _ _ = _; unfold withoutL; rw [hf]
    clear hf
    go_enter Try.func38, Try.ntmps38
    go_wp2_with (go_at_call 40; ((with_reducible refine (place_any ts _ _ _ _ _ rfl hmax hr).mono ?_); rw [HP.out]; rintro e w2 ⟨rfl, hb⟩))
    have hrun1 : IntKind.i64.wrap ((k : Int) + 1) = (k : Int) + 1 := IntWalk.i64_in _ ⟨by omega, by omega⟩
    obtain ⟨b, o, rfl, _⟩ := hr.at hk
    have k0 : (0 : Int) ≤ (k : Int) := by omega
    have k1 : (k : Int) ≤ (c : Int) := by omega
    have k2 : (0 : Int) ≤ (k : Int) + 1 := by omega
    have k3 : (k : Int) + 1 ≤ (ts.length : Int) := by omega
    have k4 : ((k : Int) + 1).toNat = k + 1 := by omega
    go_still_tail 8, (by kernel_rfl)
    change wpList _ _ _ _ _ w2.drew
    clear k0 k1 k2 k3 k4 hrun1
    have hr2 : TRow w2.drew (some ⟨b, o, none⟩) ts := hr.below hb.drew
    have htl := hr2.tail (k := k + 1) hnc
    have hcan := Can.full (B := w.heap.size) (e := 38) (size := 5) (n := k) (hr2.take k) (by rw [TRow.length, List.length_take]; congr 1; omega) (le_maxLen (by omega))
    generalize (if c = k + 1 then some (⟨b, o, none⟩ : Addr) else some ⟨b, o + (k + 1) * 5, none⟩) = ad at htl ⊢
    refine wpList_can el_tenants rfl _ _ rfl w.heap.size _ k k _ rfl hcan ad (ts.length - (k + 1)) _ ((ts.drop (k + 1)).flatMap Tenant.cells) rfl (by rw [TRow.length, List.length_drop]) htl (tcells_one _) (by omega) hb.size ?_
    intro a' c' w3 hcan3 _ hb3 hown3
    have hlen : k + (ts.length - (k + 1)) = (withoutL id ts).length := by rw [HW.out]; simp; omega
    have HL := Lib.hid hlen
    clear hlen hr2 htl hcan
    go_wp2_with fail
    go_returns
    have hnear : Near w.heap.size (some ⟨b, o, none⟩) a' := by
      by_cases h0 : 0 < ts.length - (k + 1)
      · exact Near.own (hown3.1 h0) (Nat.le_refl _)
      · rw [(hown3.2 (by omega)).1]; exact Near.self _ _
    refine ⟨a', c', by rw [HL.out]; rfl, by rw [← HL.out]; exact hcan3.le, hcan3.none (by decide), hnear, ?_, (hb.drew).trans hb3⟩
    have h3 := hcan3.row
    rw [← List.flatMap_append, ← HW.out] at h3
    exact h3
end Go.Proofs.Ytnpbajmpenpnbaa
