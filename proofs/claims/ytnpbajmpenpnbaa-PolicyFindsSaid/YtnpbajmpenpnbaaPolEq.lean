/- Where tenants may be, the program's and the document's ways to take one out and put one in give the same. Plain mathematics. -/
import Derived.Test.YtnpbajmpenpnbaaRefWith
namespace Go.Proofs.Ytnpbajmpenpnbaa

theorem tenOk_lt {a : Int} {x : Tenant} (h : tenOk a x = true) : a < x.id := by
  unfold tenOk ask1 at h
  simp only [Bool.and_eq_true, decide_eq_true_eq] at h
  exact h.1.1.1.1
theorem tensOk_all : ∀ {ts : List Tenant} {a : Int}, tensOk a ts = true → ∀ x ∈ ts, a < x.id
  | y :: ts, a, h, x, hx => by
    rw [tensOk, Bool.and_eq_true] at h
    have h1 := tenOk_lt h.1
    rcases List.mem_cons.1 hx with rfl | hx
    · exact h1
    · have := tensOk_all h.2 x hx; omega
theorem filterL_cons_eq {id : Int} {y : Tenant} {ts : List Tenant} (h : y.id = id) : filterL id (y :: ts) = filterL id ts := by
  unfold filterL; rw [List.filter_cons, if_neg (by simp [h])]
theorem filterL_cons_ne {id : Int} {y : Tenant} {ts : List Tenant} (h : y.id ≠ id) : filterL id (y :: ts) = y :: filterL id ts := by
  unfold filterL; rw [List.filter_cons, if_pos (by simp [h])]
theorem filterL_all {id : Int} {ts : List Tenant} (h : ∀ x ∈ ts, x.id ≠ id) : filterL id ts = ts := by
  unfold filterL; rw [List.filter_eq_self]; intro x hx; simpa using h x hx
theorem withoutL_cons_eq {id : Int} {y : Tenant} {ts : List Tenant} (h : y.id = id) : withoutL id (y :: ts) = ts := by
  unfold withoutL; rw [List.findIdx?_cons, if_pos (by simpa using h)]; rfl
theorem withoutL_cons_ne {id : Int} {y : Tenant} {ts : List Tenant} (h : y.id ≠ id) : withoutL id (y :: ts) = y :: withoutL id ts := by
  unfold withoutL; rw [List.findIdx?_cons, if_neg (by simpa using h)]
  cases hf : ts.findIdx? (fun x => x.id == id) with
  | none => rfl
  | some k => rfl
theorem filter_without : ∀ {ts : List Tenant} {a : Int} (id : Int), tensOk a ts = true → filterL id ts = withoutL id ts
  | [], _, _, _ => rfl
  | y :: ts, a, id, h => by
    rw [tensOk, Bool.and_eq_true] at h
    by_cases hy : y.id = id
    · rw [filterL_cons_eq hy, withoutL_cons_eq hy]
      exact filterL_all fun x hx => by have := tensOk_all h.2 x hx; omega
    · rw [filterL_cons_ne hy, withoutL_cons_ne hy, filter_without id h.2]

def insR (x : Tenant) : List Tenant → List Tenant
  | [] => [x]
  | y :: l => if x.id < y.id then x :: y :: l else y :: insR x l
theorem insR_eq (x : Tenant) : ∀ l : List Tenant, insR x l = l.take (putAt x l) ++ x :: l.drop (putAt x l)
  | [] => rfl
  | y :: l => by
    have ih := insR_eq x l
    unfold insR
    by_cases h : x.id < y.id
    · have : putAt x (y :: l) = 0 := by unfold putAt; rw [List.findIdx?_cons, if_pos (by simpa using h)]
      rw [if_pos h, this]; rfl
    · have : putAt x (y :: l) = putAt x l + 1 := by
        unfold putAt; rw [List.findIdx?_cons, if_neg (by simpa using h)]
        cases l.findIdx? (fun y => decide (x.id < y.id)) <;> rfl
      rw [if_neg h, this, ih]; rfl
def hR (x : Tenant) : Bool → List Tenant → List Tenant
  | d, [] => if d then [] else [x]
  | d, y :: l => if y.id = x.id then hR x d l else if x.id < y.id ∧ d = false then x :: y :: hR x true l else y :: hR x d l
theorem fold_hR (x : Tenant) : ∀ (l pre : List Tenant) (d : Bool), (if (l.foldl (withStep x) (pre, d)).2 then (l.foldl (withStep x) (pre, d)).1 else (l.foldl (withStep x) (pre, d)).1 ++ [x]) = pre ++ hR x d l
  | [], pre, d => by cases d <;> simp [hR]
  | y :: l, pre, d => by
    rw [List.foldl_cons]
    unfold withStep hR
    by_cases h1 : y.id = x.id
    · rw [if_pos h1, if_pos h1]; exact fold_hR x l pre d
    · rw [if_neg h1, if_neg h1]
      by_cases h2 : x.id < y.id ∧ d = false
      · rw [if_pos h2, if_pos h2]
        have := fold_hR x l (pre ++ [x] ++ [y]) true
        unfold withStep at this
        rw [this]; simp
      · rw [if_neg h2, if_neg h2]
        have := fold_hR x l (pre ++ [y]) d
        unfold withStep at this
        rw [this]; simp
theorem hR_true (x : Tenant) : ∀ l : List Tenant, hR x true l = filterL x.id l
  | [] => rfl
  | y :: l => by
    unfold hR
    by_cases h1 : y.id = x.id
    · rw [if_pos h1, filterL_cons_eq h1]; exact hR_true x l
    · rw [if_neg h1, if_neg (by simp), filterL_cons_ne h1, hR_true x l]
theorem hR_false (x : Tenant) : ∀ l : List Tenant, hR x false l = insR x (filterL x.id l)
  | [] => rfl
  | y :: l => by
    unfold hR
    by_cases h1 : y.id = x.id
    · rw [if_pos h1, filterL_cons_eq h1]; exact hR_false x l
    · rw [if_neg h1, filterL_cons_ne h1]
      by_cases h2 : x.id < y.id
      · rw [if_pos ⟨h2, rfl⟩, insR, if_pos h2, hR_true]
      · rw [if_neg (fun h => h2 h.1), insR, if_neg h2, hR_false x l]
theorem refWith_eq {ts : List Tenant} (x : Tenant) (h : tensOk 0 ts = true) : refWithL x ts = withL x ts := by
  have h1 := fold_hR x ts [] false
  rw [List.nil_append] at h1
  have h2 : refWithL x ts = hR x false ts := h1
  rw [h2, hR_false, insR_eq, filter_without x.id h]
  rfl
end Go.Proofs.Ytnpbajmpenpnbaa
