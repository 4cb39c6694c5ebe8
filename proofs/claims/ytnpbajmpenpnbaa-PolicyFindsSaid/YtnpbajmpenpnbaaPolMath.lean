/- Tenants and their policies, as plain functions: no program in sight. -/
import Derived.Test.YtnpbajmpenpnbaaAnsMath
namespace Go.Proofs.Ytnpbajmpenpnbaa

structure Tenant where
  id : Int
  rate : Int
  burst : Int
  bucket : Int
  gone : Bool
  deriving DecidableEq

def mayB (rate burst : Int) : Bool := decide (0 ≤ rate ∧ rate ≤ 1000000 ∧ 0 ≤ burst ∧ burst ≤ 1000000)
def broughtI (n lo hi : Int) : Int := min (max n lo) hi
def roomI (burst out : Int) : Int := 1000 * (broughtI burst 0 1000000 - broughtI out 0 (broughtI burst 0 1000000))
def cutI (b burst out : Int) : Int := broughtI b 0 (roomI burst out)

theorem broughtI_range (n lo hi : Int) (h : lo ≤ hi) : lo ≤ broughtI n lo hi ∧ broughtI n lo hi ≤ hi := by
  unfold broughtI; omega
theorem roomI_range (burst out : Int) : 0 ≤ roomI burst out ∧ roomI burst out ≤ 1000000000 := by
  have h := broughtI_range burst 0 1000000 (by omega)
  have h2 := broughtI_range out 0 (broughtI burst 0 1000000) h.1
  unfold roomI; omega
theorem cutI_range (b burst out : Int) : 0 ≤ cutI b burst out ∧ cutI b burst out ≤ roomI burst out := broughtI_range _ _ _ (roomI_range _ _).1

/-- What Check asks of a tenant behind one with the number 'last'. -/
def ask1 (last : Int) (x : Tenant) : Bool := decide (last < x.id ∧ x.id ≤ 16)
def ask2 (x : Tenant) : Bool := mayB x.rate x.burst
def ask3 (x : Tenant) : Bool := decide (0 ≤ x.bucket ∧ x.bucket ≤ 1000000000)
def ask4 (x : Tenant) : Bool := !x.gone || decide (x.rate = 0 ∧ x.burst = 0 ∧ x.bucket = 0)
def tenOk (last : Int) (x : Tenant) : Bool := ask1 last x && ask2 x && ask3 x && ask4 x
def tensOk : Int → List Tenant → Bool
  | _, [] => true
  | last, x :: l => tenOk last x && tensOk x.id l
/-- The number of the last one. -/
def lastId (l : List Tenant) : Int := match l.getLast? with | some x => x.id | none => 0
theorem lastId_take {l : List Tenant} {k : Nat} (h : k < l.length) : lastId (l.take (k + 1)) = l[k].id := by
  unfold lastId; rw [List.take_succ_eq_append_getElem h, List.getLast?_concat]
theorem tensOk_append : ∀ (l m : List Tenant) (a : Int), tensOk a (l ++ m) = (tensOk a l && tensOk (match l.getLast? with | some x => x.id | none => a) m)
  | [], m, a => by simp [tensOk]
  | x :: l, m, a => by
    rw [List.cons_append, tensOk, tensOk, tensOk_append l m, Bool.and_assoc]
    congr 2
    cases l with
    | nil => simp
    | cons y l =>
      rw [List.getLast?_cons_cons]
      cases h : (y :: l).getLast? with
      | none => simp at h
      | some z => rfl
theorem tensOk_snoc (l : List Tenant) (x : Tenant) : tensOk 0 (l ++ [x]) = (tensOk 0 l && tenOk (lastId l) x) := by
  rw [tensOk_append]; simp [tensOk, lastId]
theorem tensOk_take {l : List Tenant} {k : Nat} (h : k < l.length) : tensOk 0 (l.take (k + 1)) = (tensOk 0 (l.take k) && tenOk (lastId (l.take k)) l[k]) := by
  rw [List.take_succ_eq_append_getElem h, tensOk_snoc]
/-- Where a beginning falls the whole falls. -/
theorem tensOk_bad {l : List Tenant} {k : Nat} (h : k < l.length) (hb : tenOk (lastId (l.take k)) l[k] = false) : tensOk 0 l = false := by
  have h1 : tensOk 0 (l.take (k + 1)) = false := by rw [tensOk_take h, hb, Bool.and_false]
  have h2 := tensOk_append (l.take (k + 1)) (l.drop (k + 1)) 0
  rw [List.take_append_drop, h1, Bool.false_and] at h2
  exact h2

/-! Without a tenant, with one. -/
def withoutL (id : Int) (ts : List Tenant) : List Tenant := match ts.findIdx? (fun x => x.id == id) with | some k => ts.take k ++ ts.drop (k + 1) | none => ts
def putAt (x : Tenant) (ts : List Tenant) : Nat := match ts.findIdx? (fun y => decide (x.id < y.id)) with | some k => k | none => ts.length
def withL (x : Tenant) (ts : List Tenant) : List Tenant := (withoutL x.id ts).take (putAt x (withoutL x.id ts)) ++ x :: (withoutL x.id ts).drop (putAt x (withoutL x.id ts))
def zeroT : Tenant := ⟨0, 0, 0, 0, false⟩
def findT (ts : List Tenant) (id : Int) : Tenant × Bool := match ts.findIdx? (fun x => x.id == id) with | some k => (if tensOk 0 ts then (ts[k]?.getD zeroT, true) else (zeroT, false)) | none => (zeroT, false)

/-! What policies are answered. -/
def putS (ts : List Tenant) (id rate burst out : Int) : List Tenant × Ans :=
  if tensOk 0 ts = false then (ts, Ans.err 2)
  else if id < 1 ∨ 16 < id then (ts, Ans.err 161)
  else if mayB rate burst = false then (ts, Ans.err 160)
  else (withL ⟨id, rate, burst, cutI (findT ts id).1.bucket burst (max out 0), false⟩ ts, ⟨0, rate, burst, 0, 0⟩)
def getS (ts : List Tenant) (id : Int) : Ans :=
  if tensOk 0 ts = false then Ans.err 2
  else if (findT ts id).2 = false ∨ (findT ts id).1.gone = true then Ans.err 161
  else ⟨0, (findT ts id).1.rate, (findT ts id).1.burst, 0, 0⟩
def deleteS (ts : List Tenant) (id out : Int) : List Tenant × Ans :=
  if (getS ts id).e ≠ 0 then (ts, Ans.err (getS ts id).e)
  else if 0 < out then (withL ⟨id, 0, 0, 0, true⟩ ts, Ans.err 0)
  else (withoutL id ts, Ans.err 0)

theorem tenOk_ask1 {last : Int} {x : Tenant} (h : ¬(last < x.id ∧ x.id ≤ 16)) : tenOk last x = false := by
  unfold tenOk ask1; rw [decide_eq_false h]; rfl
theorem tenOk_ask2 {last : Int} {x : Tenant} (h : mayB x.rate x.burst = false) : tenOk last x = false := by
  unfold tenOk ask2; rw [h]; simp
theorem tenOk_ask3 {last : Int} {x : Tenant} (h : ¬(0 ≤ x.bucket ∧ x.bucket ≤ 1000000000)) : tenOk last x = false := by
  unfold tenOk ask3; rw [decide_eq_false h]; simp
theorem tenOk_ask4 {last : Int} {x : Tenant} (h : x.gone = true) (h2 : ¬(x.rate = 0 ∧ x.burst = 0 ∧ x.bucket = 0)) : tenOk last x = false := by
  unfold tenOk ask4; rw [decide_eq_false h2, h]; simp
theorem tenOk_mk {last : Int} {x : Tenant} (h1 : last < x.id ∧ x.id ≤ 16) (h2 : mayB x.rate x.burst = true) (h3 : 0 ≤ x.bucket ∧ x.bucket ≤ 1000000000) (h4 : x.gone = false ∨ (x.rate = 0 ∧ x.burst = 0 ∧ x.bucket = 0)) : tenOk last x = true := by
  unfold tenOk ask1 ask2 ask3 ask4
  rw [decide_eq_true h1, h2, decide_eq_true h3]
  rcases h4 with h | h
  · rw [h]; rfl
  · rw [decide_eq_true h]; simp
theorem lastId_ge : ∀ {l : List Tenant} {a : Int}, tensOk a l = true → a ≤ (match l.getLast? with | some x => x.id | none => a)
  | [], a, _ => Int.le_refl _
  | x :: l, a, h => by
    rw [tensOk, Bool.and_eq_true] at h
    have h1 : a < x.id := by
      have := h.1
      unfold tenOk ask1 at this
      simp only [Bool.and_eq_true, decide_eq_true_eq] at this
      exact this.1.1.1.1
    have h2 := lastId_ge h.2
    cases l with
    | nil => simp; omega
    | cons y l =>
      rw [List.getLast?_cons_cons]
      cases hl : (y :: l).getLast? with
      | none => simp at hl
      | some z => rw [hl] at h2; simp only at h2 ⊢; omega
theorem lastId_nonneg {l : List Tenant} (h : tensOk 0 l = true) : 0 ≤ lastId l := lastId_ge h
end Go.Proofs.Ytnpbajmpenpnbaa
