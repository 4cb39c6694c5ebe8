/- Tenants in memory; finding the first of them that is so. -/
import Derived.Test.YtnpbajmpenpnbaaBase
import Derived.Test.YtnpbajmpenpnbaaPolMath
namespace Go.Proofs.Ytnpbajmpenpnbaa
open Go.ChangeShapes Go.WideShapes Go.ChangeAt Go.RowKit

abbrev Tenant.cells (t : Tenant) : List Value := [.int .i64 t.id, .int .i64 t.rate, .int .i64 t.burst, .int .i64 t.bucket, .bool t.gone]
abbrev Tenant.agg (t : Tenant) : Value := .agg #[.int .i64 t.id, .int .i64 t.rate, .int .i64 t.burst, .int .i64 t.bucket, .bool t.gone]
/-- Tenants lie in a row. -/
abbrev TRow (w : World) (a : Option Addr) (ts : List Tenant) : Prop := Row w a (ts.flatMap Tenant.cells)
theorem TRow.at {w : World} {a : Option Addr} {ts : List Tenant} (h : TRow w a ts) {k : Nat} (hk : k < ts.length) :
    ∃ b o, a = some ⟨b, o, none⟩ ∧ ∀ w', Below w.heap.size w w' →
      w'.cell? ⟨b, o + k * 5, none⟩ = some (.int .i64 ts[k].id) ∧ w'.cell? ⟨b, o + k * 5 + 1, none⟩ = some (.int .i64 ts[k].rate) ∧ w'.cell? ⟨b, o + k * 5 + 2, none⟩ = some (.int .i64 ts[k].burst) ∧
      w'.cell? ⟨b, o + k * 5 + 3, none⟩ = some (.int .i64 ts[k].bucket) ∧ w'.cell? ⟨b, o + k * 5 + 4, none⟩ = some (.bool ts[k].gone) := by
  have hat := fun r (hr : r < 5) => flatMap_at (cells := Tenant.cells) (size := 5) (fun _ => rfl) (xs := ts) (i := k) (r := r) hr
  have hx : ts[k]? = some ts[k] := List.getElem?_eq_getElem hk
  simp only [hx, Option.bind_some] at hat
  obtain ⟨b, o, rfl, h0⟩ := h.getBelow (hat 0 (by omega))
  obtain ⟨b1, o1, e1, h1⟩ := h.getBelow (hat 1 (by omega))
  obtain ⟨b2, o2, e2, h2⟩ := h.getBelow (hat 2 (by omega))
  obtain ⟨b3, o3, e3, h3⟩ := h.getBelow (hat 3 (by omega))
  obtain ⟨b4, o4, e4, h4⟩ := h.getBelow (hat 4 (by omega))
  simp only [Option.some.injEq, Addr.mk.injEq, and_true] at e1 e2 e3 e4
  obtain ⟨rfl, rfl⟩ := e1
  obtain ⟨rfl, rfl⟩ := e2
  obtain ⟨rfl, rfl⟩ := e3
  obtain ⟨rfl, rfl⟩ := e4
  exact ⟨b, o, rfl, fun w' hb => ⟨h0 w' hb, h1 w' hb, h2 w' hb, h3 w' hb, h4 w' hb⟩⟩

/-- The place of the first that is so; -1: none. -/
def idx (p : Tenant → Bool) (ts : List Tenant) : Int := match ts.findIdx? p with | some k => (k : Int) | none => -1

theorem idx_some {p : Tenant → Bool} {ts : List Tenant} {k : Nat} (hk : k < ts.length) (hno : ∀ j (h : j < ts.length), j < k → p ts[j] = false) (hp : p ts[k] = true) : idx p ts = k := by
  have : ts.findIdx? p = some k := by
    rw [List.findIdx?_eq_some_iff_getElem]
    exact ⟨hk, hp, fun j hj => by rw [hno j (by omega) hj]; simp⟩
  unfold idx; rw [this]
theorem idx_none {p : Tenant → Bool} {ts : List Tenant} (hno : ∀ j (h : j < ts.length), p ts[j] = false) : idx p ts = -1 := by
  have : ts.findIdx? p = none := by
    rw [List.findIdx?_eq_none_iff]
    intro x hx
    obtain ⟨j, hj, rfl⟩ := List.mem_iff_getElem.1 hx
    exact hno j hj
  unfold idx; rw [this]
theorem indexFunc_any (ts : List Tenant) (a : Option Addr) (n c : Nat) (fid : FuncId) (cap : Array Value) (p : Tenant → Bool) (w : World) (hn : ts.length = n) (hl : ts.length ≤ maxLen) (hr : TRow w a ts)
    (hcf : ∀ (args : Array Value) (w : World), (callFunc fid args).run Try.prog w = .ok (.enter fid args) w)
    (hf : ∀ t ∈ ts, ∀ w', Below w.heap.size w w' → Calls Try.prog fid (#[t.agg] ++ cap) w' fun e w'' => e = .returned (.bool (p t)) ∧ Below w'.heap.size w' w'') :
    Calls Try.prog 51 #[.slice a n c, .func (.func fid) #[] cap] w fun e w' => e = .returned (.int .i64 (idx p ts)) ∧ Below w.heap.size w w' := by
  subst hn
  have hl2 := lt_maxLen hl
  go_enter Try.func51, Try.ntmps51
  go_wp2
  go_loopw [8] (fun i wr => ∃ k : Nat, k ≤ ts.length ∧ i = .int .i64 k ∧ (∀ j (h : j < ts.length), j < k → p ts[j] = false) ∧ Below w.heap.size w wr) (fun i _ => ts.length - (intOf i).toNat)
  case atStart => exact ⟨0, by omega, rfl, by omega, Below.refl _ _⟩
  case round =>
    obtain ⟨k, hk, rfl, hno, hb⟩ := hrel
    have HNO := Lib.hid hno
    clear hno
    by_cases hlt : k < ts.length
    · obtain ⟨b, o, rfl, hcs⟩ := hr.at hlt
      obtain ⟨h0, h1, h2, h3, h4⟩ := hcs _ hb
      have HF := Lib.hid (hf ts[k] (List.getElem_mem hlt))
      clear hcs hf
      by_cases hp : p ts[k] = true
      · go_wp2_with (refine (HF.out wr hb).mono ?_; rw [hp]; rintro e w2 ⟨rfl, hb2⟩)
        go_returns
        exact ⟨ret_int (idx_some hlt HNO.out hp).symm, hb.trans (hb2.mono hb.size)⟩
      · rw [Bool.not_eq_true] at hp
        go_wp2_with (refine (HF.out wr hb).mono ?_; rw [hp]; rintro e w2 ⟨rfl, hb2⟩)
        go_roundw
        case rel => exact ⟨k + 1, by omega, by go_num, fun j h hj => by rcases Nat.lt_succ_iff_lt_or_eq.1 hj with h1 | rfl; exact HNO.out j h h1; exact hp, hb.trans (hb2.mono hb.size)⟩
        case measure => simp [intOf]; omega
    · go_wp2
      go_returns
      exact ⟨ret_int (idx_none fun j h => HNO.out j h (by omega)).symm, hb⟩
end Go.Proofs.Ytnpbajmpenpnbaa
