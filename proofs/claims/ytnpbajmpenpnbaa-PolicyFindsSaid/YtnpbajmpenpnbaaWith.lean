import Derived.Test.YtnpbajmpenpnbaaCheck
namespace Go.Proofs.Ytnpbajmpenpnbaa
open Go.ChangeShapes Go.WideShapes Go.ChangeAt Go.RowKit

theorem el_tenants : Elem Try.prog 22 38 5 40 where
  under := Try.underlying22
  info := by
    have h : (Try.prog.info? 38).map (fun i => (i.zero, i.size, i.bytes)) = some (some (.agg #[.int .i64 0, .int .i64 0, .int .i64 0, .int .i64 0, .bool false]), 5, 40) := by kernel_rfl
    obtain ⟨i, hi, h0, h1, h2⟩ := info_parts h
    exact ⟨i, _, hi, h0, h1, h2, rfl⟩
  pos := by decide
  bpos := by decide
theorem tcells_len (t : Tenant) : (Tenant.cells t).length = 5 := rfl
theorem tcells_one (ts : List Tenant) : ∀ u ∈ ts.flatMap Tenant.cells, u.oneCell' = true := by
  intro u hu
  obtain ⟨t, _, ht⟩ := List.mem_flatMap.1 hu
  simp only [Tenant.cells, List.mem_cons, List.not_mem_nil, or_false] at ht
  rcases ht with rfl | rfl | rfl | rfl | rfl <;> rfl
theorem TRow.take {w : World} {a : Option Addr} {ts : List Tenant} (h : TRow w a ts) (k : Nat) : TRow w a (ts.take k) := by
  unfold TRow; rw [← flatMap_take tcells_len]; exact Row.take h _
theorem TRow.drop {w : World} {b o : Nat} {ts : List Tenant} (h : TRow w (some ⟨b, o, none⟩) ts) (k : Nat) : TRow w (some ⟨b, o + k * 5, none⟩) (ts.drop k) := by
  unfold TRow; rw [← flatMap_drop tcells_len]; exact Row.drop h _
theorem TRow.tail {w : World} {b o c k : Nat} {ts : List Tenant} (h : TRow w (some ⟨b, o, none⟩) ts) (hc : ts.length ≤ c) : TRow w (if c = k then some ⟨b, o, none⟩ else some ⟨b, o + k * 5, none⟩) (ts.drop k) := by
  split
  · rw [List.drop_eq_nil_of_le (by omega)]; exact .inl rfl
  · exact h.drop k
theorem TRow.tailO {w : World} {a : Option Addr} {c k : Nat} {ts : List Tenant} (h : TRow w a ts) (hc : ts.length ≤ c) : TRow w (if c = k then a else Option.map (fun x => x.add (k * 5)) a) (ts.drop k) := by
  by_cases hd : ts.drop k = []
  · rw [hd]; exact .inl rfl
  · have hk : k < ts.length := by
      rcases Nat.lt_or_ge k ts.length with h1 | h1
      · exact h1
      · exact absurd (List.drop_eq_nil_of_le h1) hd
    obtain ⟨b, o, rfl, _⟩ := h.at hk
    rw [if_neg (by omega)]
    have := h.drop k
    by_cases h0 : k = 0
    · subst h0; simpa [Addr.add] using this
    · have e : (⟨b, o, none⟩ : Addr).add (k * 5) = ⟨b, o + k * 5, none⟩ := by unfold Addr.add; rw [if_neg (by omega)]
      rw [Option.map_some, e]
      exact this
theorem TRow.below {w w' : World} {a : Option Addr} {ts : List Tenant} (h : TRow w a ts) (hb : Below w.heap.size w w') : TRow w' a ts := Row.below h hb
theorem TRow.length (ts : List Tenant) : (ts.flatMap Tenant.cells).length = ts.length * 5 := flatMap_len tcells_len ts

/-- A slice of tenants is what comes back. -/
def RetT (w : World) (src : Option Addr) (ts : List Tenant) (e : Ending) (w' : World) : Prop :=
  ∃ a c, e = .returned (.slice a ts.length c) ∧ ts.length ≤ c ∧ (a = none → c = 0) ∧ Near w.heap.size src a ∧ TRow w' a ts ∧ Below w.heap.size w w'

theorem place1_any (x : Tenant) (id : Int) (bl : Nat) (w : World) (hc : w.cell? ⟨bl, 0, none⟩ = some (.int .i64 id)) :
    Calls Try.prog 50 #[x.agg, .pointer (some ⟨bl, 0, none⟩)] w fun e w' => e = .returned (.bool (x.id == id)) ∧ Below w.heap.size w w' := by
  have hlt := World.block_lt_of_cell? w _ hc
  simp only at hlt
  go_enter Try.func50, Try.ntmps50
  go_wp2
  go_returns
  exact ⟨rfl, by go_grown⟩
theorem with1_any (x : Tenant) (id : Int) (bx : Nat) (w : World) (hc : w.cell? ⟨bx, 0, none⟩ = some (.int .i64 id)) :
    Calls Try.prog 47 #[x.agg, .pointer (some ⟨bx, 0, none⟩)] w fun e w' => e = .returned (.bool (decide (id < x.id))) ∧ Below w.heap.size w w' := by
  have hlt := World.block_lt_of_cell? w _ hc
  simp only at hlt
  go_enter Try.func47, Try.ntmps47
  go_wp2
  go_returns
  exact ⟨rfl, by go_grown⟩
theorem enter_place1 (args : Array Value) (w : World) : (callFunc 50 args).run Try.prog w = .ok (.enter 50 args) w := by kernel_rfl
theorem enter_with1 (args : Array Value) (w : World) : (callFunc 47 args).run Try.prog w = .ok (.enter 47 args) w := by kernel_rfl

theorem find_any (ts : List Tenant) (a : Option Addr) (n c : Nat) (fid : FuncId) (cap : Array Value) (p : Tenant → Bool) (w : World) (hn : ts.length = n) (hl : ts.length ≤ maxLen) (hr : TRow w a ts)
    (hcf : ∀ (args : Array Value) (w : World), (callFunc fid args).run Try.prog w = .ok (.enter fid args) w)
    (hf : ∀ t ∈ ts, ∀ w', Below w.heap.size w w' → Calls Try.prog fid (#[t.agg] ++ cap) w' fun e w'' => e = .returned (.bool (p t)) ∧ Below w'.heap.size w' w'') :
    Calls Try.prog 46 #[.slice a n c, .func (.func fid) #[] cap] w fun e w' => e = .returned (.int .i64 (idx p ts)) ∧ Below w.heap.size w w' := by
  have HF := Lib.hid hf
  have HCF := Lib.hid hcf
  clear hf hcf
  go_enter Try.func46, Try.ntmps46
  go_wp2_with (go_at_call 51; ((with_reducible refine (indexFunc_any ts _ _ _ _ _ p _ hn hl hr HCF.out HF.out).mono ?_); rintro e w' ⟨rfl, hb⟩))
  go_returns
  exact ⟨rfl, hb⟩

theorem place_any (ts : List Tenant) (a : Option Addr) (n c : Nat) (id : Int) (w : World) (hn : ts.length = n) (hl : ts.length ≤ maxLen) (hr : TRow w a ts) :
    Calls Try.prog 40 #[.slice a n c, .int .i64 id] w fun e w' => e = .returned (.int .i64 (idx (fun x => x.id == id) ts)) ∧ Below w.heap.size w w' := by
  have hcall := find_any ts a n c 50 #[.pointer (some ⟨w.heap.size, 0, none⟩)] (fun x => x.id == id) (w.alloc (.cells #[.int .i64 id] 3)) hn hl (Row.alloc hr _) enter_place1
    (fun t _ w' hb => place1_any t id _ w' ((hb.cell (p := ⟨w.heap.size, 0, none⟩) (by simp)).trans (World.cell?_alloc_at _ _ _ _ rfl)))
  have HC := Lib.hid hcall
  clear hcall
  go_enter Try.func40, Try.ntmps40
  go_wp2_with (go_at_call 46; ((with_reducible refine HC.out.mono ?_); rintro e w' ⟨rfl, hb⟩))
  go_returns
  exact ⟨rfl, ((Below.refl _ _).alloc (Nat.le_refl _) _).trans (hb.mono (by simp))⟩
end Go.Proofs.Ytnpbajmpenpnbaa
