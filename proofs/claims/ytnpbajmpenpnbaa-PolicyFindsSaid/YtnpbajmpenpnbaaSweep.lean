import Derived.Test.YtnpbajmpenpnbaaDeleteFuncTen
import Derived.Test.YtnpbajmpenpnbaaSet
namespace Go.Proofs.Ytnpbajmpenpnbaa
open Go.ChangeShapes Go.WideShapes Go.ChangeAt Go.RowKit

/-- What is out of a tenant, by the row of outs. -/
def outOf (outs : List Int) (id : Int) : Int := outs.getD (id - 1).toNat 0
def goneP (outs : List Int) (x : Tenant) : Bool := x.gone && decide (outOf outs x.id ≤ 0)
def sweepS (ts : List Tenant) (outs : List Int) : List Tenant := if tensOk 0 ts = true then ts.filter (fun x => !goneP outs x) else ts
theorem outOf_far {outs : List Int} {id : Int} (h : (outs.length : Int) < id) : outOf outs id = 0 := by
  unfold outOf; rw [List.getD_eq_getElem?_getD, List.getElem?_eq_none (by omega)]; rfl
theorem outOf_at {outs : List Int} {id : Int} (h1 : 1 ≤ id) (h : id ≤ (outs.length : Int)) : ∃ k : Nat, k < outs.length ∧ id - 1 = k ∧ outs[k]? = some (outOf outs id) := by
  refine ⟨(id - 1).toNat, by omega, by omega, ?_⟩
  unfold outOf
  rw [List.getD_eq_getElem?_getD, List.getElem?_eq_getElem (by omega)]; rfl
theorem sweepS_length (ts : List Tenant) (outs : List Int) : (sweepS ts outs).length ≤ ts.length := by
  unfold sweepS; split
  · exact List.length_filter_le _ _
  · exact Nat.le_refl _

set_option maxHeartbeats 1000000 in
theorem sweep1_any (x : Tenant) (outs : List Int) (bl : Nat) (a : Option Addr) (n c : Nat) (w : World) (hn : outs.length = n) (hl : n ≤ 1000) (h1 : 1 ≤ x.id) (hc : w.cell? ⟨bl, 0, none⟩ = some (.slice a n c)) (hr : Row w a (outs.map (Value.int .i64))) :
    Calls Try.prog 43 #[x.agg, .pointer (some ⟨bl, 0, none⟩)] w fun e w' => e = .returned (.bool (goneP outs x)) ∧ Below w.heap.size w w' := by
  subst hn
  obtain ⟨id, rate, burst, bucket, gone⟩ := x
  simp only at h1
  have hlt := World.block_lt_of_cell? w _ hc
  simp only at hlt
  cases gone
  · go_enter Try.func43, Try.ntmps43
    go_wp2
    go_returns
    exact ⟨ret_bool (by simp [goneP]), by go_grown⟩
  · by_cases hfar : (outs.length : Int) < id
    · have HF := Lib.hid (outOf_far hfar)
      go_enter Try.func43, Try.ntmps43
      go_wp2
      go_returns
      exact ⟨ret_bool (by unfold goneP; simp only; rw [HF.out]; rfl), by go_grown⟩
    · obtain ⟨k, hk, hk2, hk3⟩ := outOf_at (outs := outs) h1 (by omega)
      obtain ⟨b, o, rfl, hcell⟩ := Row.getBelow hr (k := k) (by rw [List.getElem?_map, hk3]; rfl)
      have hcl := hcell _ ((Below.refl w.heap.size w).alloc (Nat.le_refl _) (.cells #[.int .i64 id, .int .i64 rate, .int .i64 burst, .int .i64 bucket, .bool true] 38))
      obtain rfl : id = k + 1 := by omega
      generalize hov : outOf outs (k + 1) = ov at hcl
      have HOV := Lib.hid hov
      clear hcell hk3 hov hk2 h1
      go_enter Try.func43, Try.ntmps43
      go_wp2
      go_returns
      exact ⟨ret_bool (by unfold goneP; simp only; rw [HOV.out]; simp), by go_grown⟩
theorem enter_sweep1 (args : Array Value) (w : World) : (callFunc 43 args).run Try.prog w = .ok (.enter 43 args) w := by kernel_rfl

set_option maxHeartbeats 1000000 in
theorem sweep_any (ts : List Tenant) (outs : List Int) (a b : Option Addr) (n c m d : Nat) (w : World) (hn : ts.length = n) (hm : outs.length = m) (hl : ts.length ≤ 900) (hlo : m ≤ 1000) (hc : a = none → c = 0) (hnc : n ≤ c) (hr : TRow w a ts) (hro : Row w b (outs.map (Value.int .i64))) :
    Calls Try.prog 23 #[.slice a n c, .slice b m d] w (RetT w a (sweepS ts outs)) := by
  subst hn
  have hmax : ts.length ≤ maxLen := le_maxLen (by omega)
  have HS : Hid (sweepS ts outs = if tensOk 0 ts = true then ts.filter (fun x => !goneP outs x) else ts) := rfl
  generalize sweepS ts outs = res at HS ⊢
  have hbx : (w.alloc (.cells #[.slice b m d] 39)).cell? ⟨w.heap.size, 0, none⟩ = some (.slice b m d) := World.cell?_alloc_at _ _ _ 0 rfl
  cases h1 : tensOk 0 ts with
  | false =>
    have H1 := Lib.hid h1
    have HO : Hid (res = ts) := by rw [HS.out, if_neg (by rw [h1]; simp)]; exact rfl
    clear h1 HS hbx
    go_enter Try.func23, Try.ntmps23
    go_wp2_with (first
      | (go_at_call 12; ((with_reducible refine (check_any ts a _ _ _ rfl hmax (hr.below (by repeat' (first | (with_reducible exact Below.refl _ _) | (with_reducible assumption) | (with_reducible refine Below.drew ?_) | (with_reducible refine Below.more ?_ _) | (with_reducible refine Below.put ?_ ?_ _) | (with_reducible refine Below.next ?_ (by with_reducible assumption)) | (with_reducible exact Nat.le_refl _) | (with_reducible refine Below.size' ?_) | omega)))).mono ?_); rw [H1.out]; rintro e w3 ⟨rfl, hb3⟩)))
    go_returns
    exact ⟨a, c, by rw [HO.out]; rfl, by rw [HO.out]; exact hnc, hc, Near.self _ _, by rw [HO.out]; exact hr.below (by repeat' (first | (with_reducible exact Below.refl _ _) | (with_reducible assumption) | (with_reducible refine Below.drew ?_) | (with_reducible refine Below.more ?_ _) | (with_reducible refine Below.put ?_ ?_ _) | (with_reducible refine Below.next ?_ (by with_reducible assumption)) | (with_reducible exact Nat.le_refl _) | (with_reducible refine Below.size' ?_) | omega)), (by repeat' (first | (with_reducible exact Below.refl _ _) | (with_reducible assumption) | (with_reducible refine Below.drew ?_) | (with_reducible refine Below.more ?_ _) | (with_reducible refine Below.put ?_ ?_ _) | (with_reducible refine Below.next ?_ (by with_reducible assumption)) | (with_reducible exact Nat.le_refl _) | (with_reducible refine Below.size' ?_) | omega))⟩
  | true =>
    have H1 := Lib.hid h1
    have HID : Hid (∀ x ∈ ts, 1 ≤ x.id) := fun x hx => by have := tensOk_all h1 x hx; omega
    have HO : Hid (res = ts.filter (fun x => !goneP outs x)) := by rw [HS.out, if_pos h1]; exact rfl
    have HBX := Lib.hid hbx
    clear h1 HS hbx
    have hcf := enter_sweep1
    by_cases h0 : ts = []
    · subst h0
      go_enter Try.func23, Try.ntmps23
      go_wp2_with (first
        | (go_at_call 12; ((with_reducible refine (check_any [] a 0 _ _ rfl (Nat.zero_le _) (Row.nil _ _)).mono ?_); rw [H1.out]; rintro e w3 ⟨rfl, hb3⟩))
        | (go_at_call 42; ((with_reducible refine (clone_any [] a 0 _ _ rfl (by simp) hc (Nat.zero_le _) (Row.nil _ _)).mono ?_); rintro e w4 ⟨a4, c4, rfl, hnear4, hcan4, _, hb4⟩))
        | (go_at_call 41; ((with_reducible refine (deleteFuncNilTen a4 c4 _ _ _ hcf).mono ?_); rintro e w5 ⟨rfl, hb5⟩)))
      go_returns
      exact ⟨a4, c4, by rw [HO.out]; rfl, by rw [HO.out]; exact hcan4.le, hcan4.none (by decide), (hnear4.mono (by (with_reducible refine Below.size' ?_); repeat' (first | (with_reducible exact Below.refl _ _) | (with_reducible assumption) | (with_reducible refine Below.drew ?_) | (with_reducible refine Below.more ?_ _) | (with_reducible refine Below.put ?_ ?_ _) | (with_reducible refine Below.next ?_ (by with_reducible assumption)) | (with_reducible exact Nat.le_refl _) | omega))).trans' _, by rw [HO.out]; exact .inl rfl, (by repeat' (first | (with_reducible exact Below.refl _ _) | (with_reducible assumption) | (with_reducible refine Below.drew ?_) | (with_reducible refine Below.more ?_ _) | (with_reducible refine Below.put ?_ ?_ _) | (with_reducible refine Below.next ?_ (by with_reducible assumption)) | (with_reducible exact Nat.le_refl _) | (with_reducible refine Below.size' ?_) | omega))⟩
    · go_enter Try.func23, Try.ntmps23
      go_wp2_with (first
        | (go_at_call 12; ((with_reducible refine (check_any ts a _ _ _ rfl hmax (hr.below (by repeat' (first | (with_reducible exact Below.refl _ _) | (with_reducible assumption) | (with_reducible refine Below.drew ?_) | (with_reducible refine Below.more ?_ _) | (with_reducible refine Below.put ?_ ?_ _) | (with_reducible refine Below.next ?_ (by with_reducible assumption)) | (with_reducible exact Nat.le_refl _) | (with_reducible refine Below.size' ?_) | omega)))).mono ?_); rw [H1.out]; rintro e w3 ⟨rfl, hb3⟩))
        | (go_at_call 42; ((with_reducible refine (clone_any ts a _ _ _ rfl (by omega) hc hnc (hr.below (by repeat' (first | (with_reducible exact Below.refl _ _) | (with_reducible assumption) | (with_reducible refine Below.drew ?_) | (with_reducible refine Below.more ?_ _) | (with_reducible refine Below.put ?_ ?_ _) | (with_reducible refine Below.next ?_ (by with_reducible assumption)) | (with_reducible exact Nat.le_refl _) | (with_reducible refine Below.size' ?_) | omega)))).mono ?_); rintro e w4 ⟨a4, c4, rfl, hnear4, hcan4, hown4, hb4⟩; obtain ⟨g4, rfl, hB4, hcm4⟩ := own_head (hown4 h0) (by cases ts with | nil => exact absurd rfl h0 | cons => simp); have hm4 := Lib.hid (Mine.of_own (L := layTen) (hown4 h0)); have hs3 := hb3.size))
        | (go_at_call 41; ((with_reducible refine (deleteFuncTen ts w3.heap.size g4 _ c4 _ _ (goneP outs) _ rfl hcan4.le hcm4 hm4.out hb4.size hcf (fun x hx w' hb' => sweep1_any x outs _ b _ d w' hm hlo (HID.out x hx) (((hb4.trans hb').cell (p := ⟨w.heap.size, 0, none⟩) (by simp at hs3; show w.heap.size < _; omega)).trans ((hb3.cell (p := ⟨w.heap.size, 0, none⟩) (by simp)).trans HBX.out)) ((Row.below (Row.below (Row.alloc hro _) hb3) (hb4.trans hb')))) ).mono ?_); rintro e w5 ⟨rfl, hr5, hb5⟩; have hb45 := hb4.trans hb5)))
      go_returns
      have hle := List.length_filter_le (fun x => !goneP outs x) ts
      have hle4 := hcan4.le
      exact ⟨some ⟨g4, 0, none⟩, c4, by rw [HO.out]; rfl, by rw [HO.out]; omega, (fun h => by cases h), (fun b' o' s' h' => by simp at h'; left; obtain ⟨rfl, rfl, rfl⟩ := h'; simp at hs3; omega), by rw [HO.out]; exact hr5, (by repeat' (first | (with_reducible exact Below.refl _ _) | (with_reducible assumption) | (with_reducible refine Below.drew ?_) | (with_reducible refine Below.more ?_ _) | (with_reducible refine Below.put ?_ ?_ _) | (with_reducible refine Below.next ?_ (by with_reducible assumption)) | (with_reducible exact Nat.le_refl _) | (with_reducible refine Below.size' ?_) | omega))⟩
end Go.Proofs.Ytnpbajmpenpnbaa
