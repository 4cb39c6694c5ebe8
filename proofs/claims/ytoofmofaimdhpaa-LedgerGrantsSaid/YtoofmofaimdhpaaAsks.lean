import Derived.Test.YtoofmofaimdhpaaPackA1
set_option linter.unusedVariables false
set_option linter.unusedSimpArgs false
namespace Go.Proofs.Ytoofmofaimdhpaa
open Go.ChangeShapes Go.WideShapes Go.ChangeAt Go.RowKit
set_option maxRecDepth 100000

theorem ask1_any (x : Tenant) (last : Int) (bl : Nat) (w : World) (hc : w.cell? ⟨bl, 0, none⟩ = some (.int .i64 last)) :
    Calls Try.prog 76 #[x.agg, .pointer (some ⟨bl, 0, none⟩)] w fun e w' => e = .returned (.bool (ask1 last x)) ∧ Below w.heap.size w w' := by
  have hlt := World.block_lt_of_cell? w _ hc
  simp only at hlt
  go_each [last < x.id, x.id ≤ 16] => (
    go_enter Try.func76, Try.ntmps76
    go_wp2
    go_returns
    refine ⟨ret_bool ?_, by go_grown⟩
    unfold ask1
    first | (refine (decide_eq_true ?_).symm; omega) | (refine (decide_eq_false ?_).symm; omega) | (rw [Bool.eq_iff_iff]; simp only [decide_eq_true_iff, Bool.and_eq_true]; omega))
theorem ask2_any (x : Tenant) (w : World) :
    Calls Try.prog 77 #[x.agg] w fun e w' => e = .returned (.bool (ask2 x)) ∧ Below w.heap.size w w' := by
  go_enter Try.func77, Try.ntmps77
  go_wp2_with (go_at_call 78; ((with_reducible refine (may_any _ _ _).mono ?_); rintro e w' ⟨rfl, rfl⟩))
  go_returns
  exact ⟨rfl, by go_grown⟩
theorem ask3_any (x : Tenant) (w : World) :
    Calls Try.prog 79 #[x.agg] w fun e w' => e = .returned (.bool (ask3 x)) ∧ Below w.heap.size w w' := by
  go_each [0 ≤ x.bucket, x.bucket ≤ 1000000000] => (
    go_enter Try.func79, Try.ntmps79
    go_wp2
    go_returns
    refine ⟨ret_bool ?_, by go_grown⟩
    unfold ask3
    first | (refine (decide_eq_true ?_).symm; omega) | (refine (decide_eq_false ?_).symm; omega) | (rw [Bool.eq_iff_iff]; simp only [decide_eq_true_iff, Bool.and_eq_true]; omega))
theorem ask4_any (x : Tenant) (w : World) :
    Calls Try.prog 80 #[x.agg] w fun e w' => e = .returned (.bool (ask4 x)) ∧ Below w.heap.size w w' := by
  obtain ⟨id, rate, burst, bucket, gone⟩ := x
  cases gone
  · go_enter Try.func80, Try.ntmps80
    go_wp2
    go_returns
    exact ⟨ret_bool (by simp [ask4]), by go_grown⟩
  · go_enter Try.func80, Try.ntmps80
    go_wp2
    all_goals
      go_returns
      refine ⟨ret_bool ?_, by go_grown⟩
      first | (simp_all [ask4]; done) | (simp_all [ask4]; rfl)
/-- The four asks, by place. -/
def askAt (last : Int) (x : Tenant) : Nat → Bool
  | 0 => ask1 last x
  | 1 => ask2 x
  | 2 => ask3 x
  | _ => ask4 x
def askVal (bl : Nat) : Nat → Value
  | 0 => .func (.func 76) #[] #[.pointer (some ⟨bl, 0, none⟩)]
  | 1 => .func (.func 77) #[] #[]
  | 2 => .func (.func 79) #[] #[]
  | _ => .func (.func 80) #[] #[]
/-- The closure that asks and turns the answer round. -/
theorem not_ask (x : Tenant) (last : Int) (bl bx : Nat) (i : Nat) (hi : i < 4) (w : World) (hc : w.cell? ⟨bl, 0, none⟩ = some (.int .i64 last))
    (h0 : w.cell? ⟨bx, 0, none⟩ = some (.int .i64 x.id)) (h1 : w.cell? ⟨bx, 1, none⟩ = some (.int .i64 x.rate)) (h2 : w.cell? ⟨bx, 2, none⟩ = some (.int .i64 x.burst))
    (h3 : w.cell? ⟨bx, 3, none⟩ = some (.int .i64 x.bucket)) (h4 : w.cell? ⟨bx, 4, none⟩ = some (.bool x.gone)) :
    Calls Try.prog 82 #[askVal bl i, .pointer (some ⟨bx, 0, none⟩)] w fun e w' => e = .returned (.bool (!askAt last x i)) ∧ Below w.heap.size w w' := by
  match i, hi with
  | 0, _ =>
    unfold askVal askAt
    go_enter Try.func82, Try.ntmps82
    go_wp2_with (go_at_call 76; ((with_reducible refine (ask1_any x last _ _ hc).mono ?_); rintro e w' ⟨rfl, hb⟩))
    go_returns
    exact ⟨rfl, hb⟩
  | 1, _ =>
    unfold askVal askAt
    go_enter Try.func82, Try.ntmps82
    go_wp2_with (go_at_call 77; ((with_reducible refine (ask2_any x _).mono ?_); rintro e w' ⟨rfl, hb⟩))
    go_returns
    exact ⟨rfl, hb⟩
  | 2, _ =>
    unfold askVal askAt
    go_enter Try.func82, Try.ntmps82
    go_wp2_with (go_at_call 79; ((with_reducible refine (ask3_any x _).mono ?_); rintro e w' ⟨rfl, hb⟩))
    go_returns
    exact ⟨rfl, hb⟩
  | 3, _ =>
    unfold askVal askAt
    go_enter Try.func82, Try.ntmps82
    go_wp2_with (go_at_call 80; ((with_reducible refine (ask4_any x _).mono ?_); rintro e w' ⟨rfl, hb⟩))
    go_returns
    exact ⟨rfl, hb⟩

/-- The first place from 0 to n that is so; -1: none. -/
def firstAt (q : Nat → Bool) (n : Nat) : Int := match (List.range n).find? q with | some k => (k : Int) | none => -1
theorem firstAt_some {q : Nat → Bool} {n k : Nat} (hk : k < n) (hno : ∀ j, j < k → q j = false) (hq : q k = true) : firstAt q n = k := by
  have : (List.range n).find? q = some k := by
    rw [List.find?_range_eq_some]
    exact ⟨hq, by simpa using hk, fun j hj => by rw [hno j hj]; rfl⟩
  unfold firstAt; rw [this]
theorem firstAt_none {q : Nat → Bool} {n : Nat} (hno : ∀ j, j < n → q j = false) : firstAt q n = -1 := by
  have : (List.range n).find? q = none := by
    rw [List.find?_range_eq_none]
    exact fun j hj => by rw [hno j hj]; rfl
  unfold firstAt; rw [this]

theorem indexFuncs_any (q : Nat → Bool) (vs : List Value) (a : Option Addr) (n c : Nat) (fid : FuncId) (cap : Array Value) (w : World) (hn : vs.length = n) (hl : n ≤ maxLen) (hr : Row w a vs)
    (hcf : ∀ (args : Array Value) (w : World), (callFunc fid args).run Try.prog w = .ok (.enter fid args) w)
    (hf : ∀ i v, vs[i]? = some v → ∀ w', Below w.heap.size w w' → Calls Try.prog fid (#[v] ++ cap) w' fun e w'' => e = .returned (.bool (q i)) ∧ Below w'.heap.size w' w'') :
    Calls Try.prog 99 #[.slice a n c, .func (.func fid) #[] cap] w fun e w' => e = .returned (.int .i64 (firstAt q n)) ∧ Below w.heap.size w w' := by
  subst hn
  have hl2 := lt_maxLen hl
  go_enter Try.func99, Try.ntmps99
  go_wp2
  go_loopw [8] (fun i wr => ∃ k : Nat, k ≤ vs.length ∧ i = .int .i64 k ∧ (∀ j, j < k → q j = false) ∧ Below w.heap.size w wr) (fun i _ => vs.length - (intOf i).toNat)
  case atStart => exact ⟨0, by omega, rfl, by omega, Below.refl _ _⟩
  case round =>
    obtain ⟨k, hk, rfl, hno, hb⟩ := hrel
    have HNO := Lib.hid hno
    clear hno
    by_cases hlt : k < vs.length
    · have hv : vs[k]? = some vs[k] := List.getElem?_eq_getElem hlt
      obtain ⟨b, o, rfl, hcs⟩ := hr.getBelow hv
      have h0 := hcs _ hb
      have HF := Lib.hid (hf k _ hv)
      clear hcs hf hv
      by_cases hp : q k = true
      · go_wp2_with (refine (HF.out wr hb).mono ?_; rw [hp]; rintro e w2 ⟨rfl, hb2⟩)
        go_returns
        exact ⟨ret_int (firstAt_some hlt HNO.out hp).symm, hb.trans (hb2.mono hb.size)⟩
      · rw [Bool.not_eq_true] at hp
        go_wp2_with (refine (HF.out wr hb).mono ?_; rw [hp]; rintro e w2 ⟨rfl, hb2⟩)
        go_roundw
        case rel => exact ⟨k + 1, by omega, by go_num, fun j hj => by rcases Nat.lt_succ_iff_lt_or_eq.1 hj with h1 | rfl; exact HNO.out j h1; exact hp, hb.trans (hb2.mono hb.size)⟩
        case measure => simp [intOf]; omega
    · go_wp2
      go_returns
      exact ⟨ret_int (firstAt_none fun j h => HNO.out j (by omega)).symm, hb⟩

theorem containsFuncs_any (q : Nat → Bool) (vs : List Value) (a : Option Addr) (n c : Nat) (fid : FuncId) (cap : Array Value) (w : World) (hn : vs.length = n) (hl : n ≤ maxLen) (hr : Row w a vs)
    (hcf : ∀ (args : Array Value) (w : World), (callFunc fid args).run Try.prog w = .ok (.enter fid args) w)
    (hf : ∀ i v, vs[i]? = some v → ∀ w', Below w.heap.size w w' → Calls Try.prog fid (#[v] ++ cap) w' fun e w'' => e = .returned (.bool (q i)) ∧ Below w'.heap.size w' w'') :
    Calls Try.prog 81 #[.slice a n c, .func (.func fid) #[] cap] w fun e w' => e = .returned (.bool (decide (0 ≤ firstAt q n))) ∧ Below w.heap.size w w' := by
  have HF := Lib.hid hf
  have HCF := Lib.hid hcf
  clear hf hcf
  go_enter Try.func81, Try.ntmps81
  go_wp2_with (go_at_call 99; ((with_reducible refine (indexFuncs_any q vs _ _ _ _ _ _ hn hl hr HCF.out HF.out).mono ?_); rintro e w' ⟨rfl, hb⟩))
  go_returns
  exact ⟨rfl, hb⟩

theorem firstAt_ask (last : Int) (x : Tenant) : decide (0 ≤ firstAt (fun i => !askAt last x i) 4) = !tenOk last x := by
  unfold tenOk
  by_cases h1 : ask1 last x = true
  · by_cases h2 : ask2 x = true
    · by_cases h3 : ask3 x = true
      · by_cases h4 : ask4 x = true
        · rw [firstAt_none (fun j hj => by match j, hj with | 0, _ => simp [askAt, h1] | 1, _ => simp [askAt, h2] | 2, _ => simp [askAt, h3] | 3, _ => simp [askAt, h4])]
          simp [h1, h2, h3, h4]
        · rw [firstAt_some (k := 3) (by omega) (fun j hj => by match j, hj with | 0, _ => simp [askAt, h1] | 1, _ => simp [askAt, h2] | 2, _ => simp [askAt, h3]) (by simp [askAt, h4])]
          simp [h1, h2, h3, h4]
      · rw [firstAt_some (k := 2) (by omega) (fun j hj => by match j, hj with | 0, _ => simp [askAt, h1] | 1, _ => simp [askAt, h2]) (by simp [askAt, h3])]
        simp [h1, h2, h3]
    · rw [firstAt_some (k := 1) (by omega) (fun j hj => by match j, hj with | 0, _ => simp [askAt, h1]) (by simp [askAt, h2])]
      simp [h1, h2]
  · rw [firstAt_some (k := 0) (by omega) (fun j hj => by omega) (by simp [askAt, h1])]
    simp [h1]

end Go.Proofs.Ytoofmofaimdhpaa
