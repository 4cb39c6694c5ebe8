/- What a policy put, or deleted, does to tenants that may be. Plain mathematics. -/
import Derived.Test.YtnpbajmpenpnbaaPolEq
namespace Go.Proofs.Ytnpbajmpenpnbaa

def okT (x : Tenant) : Bool := decide (x.id ≤ 16) && ask2 x && ask3 x && ask4 x
theorem tenOk_iff {a : Int} {x : Tenant} : tenOk a x = true ↔ a < x.id ∧ okT x = true := by
  unfold tenOk ask1 okT
  simp only [Bool.and_eq_true, decide_eq_true_eq]
  constructor
  · rintro ⟨⟨⟨⟨h1, h2⟩, h3⟩, h4⟩, h5⟩; exact ⟨h1, ⟨⟨h2, h3⟩, h4⟩, h5⟩
  · rintro ⟨h1, ⟨⟨h2, h3⟩, h4⟩, h5⟩; exact ⟨⟨⟨⟨h1, h2⟩, h3⟩, h4⟩, h5⟩
theorem tensOk_iff : ∀ {ts : List Tenant} {a : Int}, tensOk a ts = true ↔ (∀ x ∈ ts, a < x.id ∧ okT x = true) ∧ ts.Pairwise (fun x y => x.id < y.id)
  | [], a => by simp [tensOk]
  | y :: ts, a => by
    rw [tensOk, Bool.and_eq_true, tenOk_iff, tensOk_iff, List.pairwise_cons]
    constructor
    · rintro ⟨⟨h1, h2⟩, h3, h4⟩
      refine ⟨fun x hx => ?_, fun x hx => (h3 x hx).1, h4⟩
      rcases List.mem_cons.1 hx with rfl | hx
      · exact ⟨h1, h2⟩
      · have := h3 x hx; exact ⟨by omega, this.2⟩
    · rintro ⟨h1, h2, h3⟩
      exact ⟨h1 y (List.mem_cons_self ..), fun x hx => ⟨h2 x hx, (h1 x (List.mem_cons_of_mem _ hx)).2⟩, h3⟩
def findO (ts : List Tenant) (id : Int) : Option Tenant := ts.find? (fun x => x.id == id)
def bucketL (ts : List Tenant) (id : Int) : Int := match findO ts id with | some x => x.bucket | none => 0
theorem findO_mem {ts : List Tenant} {id : Int} {x : Tenant} (h : findO ts id = some x) : x ∈ ts ∧ x.id = id :=
  ⟨List.mem_of_find?_eq_some h, by simpa using List.find?_some h⟩
theorem findIdx_find : ∀ (ts : List Tenant) (id : Int), ((ts.findIdx? (fun x => x.id == id)).bind fun k => ts[k]?) = findO ts id
  | [], _ => rfl
  | y :: ts, id => by
    unfold findO
    rw [List.findIdx?_cons, List.find?_cons]
    by_cases h : (y.id == id) = true
    · rw [if_pos h, h]; rfl
    · rw [if_neg h]
      rw [Bool.not_eq_true] at h
      rw [h]
      have := findIdx_find ts id
      unfold findO at this
      simp only
      rw [← this]
      cases ts.findIdx? (fun x => x.id == id) <;> rfl
theorem findT_eq {ts : List Tenant} (id : Int) (h : tensOk 0 ts = true) : findT ts id = match findO ts id with | some x => (x, true) | none => (zeroT, false) := by
  have h1 := findIdx_find ts id
  unfold findT
  cases hf : ts.findIdx? (fun x => x.id == id) with
  | none => rw [hf] at h1; rw [← h1]; rfl
  | some k =>
    rw [hf] at h1
    have hk : k < ts.length := (List.findIdx?_eq_some_iff_getElem.1 hf).1
    simp only [Option.bind_some] at h1
    rw [← h1, List.getElem?_eq_getElem hk]
    simp [h, List.getElem?_eq_getElem hk]
theorem getS_eq {ts : List Tenant} (id : Int) (h : tensOk 0 ts = true) : getS ts id = match findO ts id with | some x => if x.gone = true then Ans.err 161 else ⟨0, x.rate, x.burst, 0, 0⟩ | none => Ans.err 161 := by
  unfold getS
  rw [if_neg (by rw [h]; simp), findT_eq id h]
  cases findO ts id with
  | none => rw [if_pos (.inl rfl)]
  | some x =>
    simp only
    by_cases hg : x.gone = true
    · rw [if_pos (.inr hg), if_pos hg]
    · rw [if_neg (by simp [hg]), if_neg hg]
theorem findT_bucket {ts : List Tenant} (id : Int) (h : tensOk 0 ts = true) : (findT ts id).1.bucket = bucketL ts id := by
  rw [findT_eq id h]; unfold bucketL
  cases findO ts id <;> rfl
theorem bucketL_range {ts : List Tenant} (id : Int) (h : tensOk 0 ts = true) : 0 ≤ bucketL ts id := by
  unfold bucketL
  cases hf : findO ts id with
  | none => exact Int.le_refl _
  | some x =>
    have := ((tensOk_iff.1 h).1 x (findO_mem hf).1).2
    unfold okT ask3 at this
    simp only [Bool.and_eq_true, decide_eq_true_eq] at this
    exact this.1.2.1
/-! Put in, taken out. -/
theorem withL_eq {ts : List Tenant} (x : Tenant) (h : tensOk 0 ts = true) : withL x ts = insR x (filterL x.id ts) := by
  rw [insR_eq, filter_without x.id h]; rfl
theorem mem_insR {x y : Tenant} : ∀ {l : List Tenant}, y ∈ insR x l ↔ y = x ∨ y ∈ l
  | [] => by simp [insR]
  | z :: l => by
    unfold insR
    split
    · simp
    · rw [List.mem_cons, mem_insR, List.mem_cons]
      constructor
      · rintro (h | h | h) <;> simp [h]
      · rintro (h | h | h) <;> simp [h]
theorem insR_sorted {x : Tenant} : ∀ {l : List Tenant}, l.Pairwise (fun x y => x.id < y.id) → (∀ y ∈ l, y.id ≠ x.id) → (insR x l).Pairwise (fun x y => x.id < y.id)
  | [], _, _ => by simp [insR]
  | z :: l, h, hn => by
    rw [List.pairwise_cons] at h
    unfold insR
    split
    · rename_i hlt
      rw [List.pairwise_cons, List.pairwise_cons]
      refine ⟨fun y hy => ?_, h⟩
      rcases List.mem_cons.1 hy with rfl | hy
      · exact hlt
      · have := h.1 y hy; omega
    · rename_i hlt
      rw [List.pairwise_cons]
      refine ⟨fun y hy => ?_, insR_sorted h.2 fun y hy => hn y (List.mem_cons_of_mem _ hy)⟩
      rcases mem_insR.1 hy with rfl | hy
      · have := hn z (List.mem_cons_self ..); omega
      · exact h.1 y hy
theorem find_insR_self {x : Tenant} : ∀ {l : List Tenant}, (∀ y ∈ l, y.id ≠ x.id) → findO (insR x l) x.id = some x
  | [], _ => by simp [insR, findO]
  | z :: l, hn => by
    have hz := hn z (List.mem_cons_self ..)
    unfold insR
    split
    · simp [findO]
    · have := find_insR_self (l := l) fun y hy => hn y (List.mem_cons_of_mem _ hy)
      unfold findO at this ⊢
      rw [List.find?_cons_of_neg (by simpa using hz)]
      exact this
theorem find_insR_other {x : Tenant} {id : Int} (h : x.id ≠ id) : ∀ l : List Tenant, findO (insR x l) id = findO l id
  | [] => by simp [insR, findO, h]
  | z :: l => by
    have ih := find_insR_other h l
    unfold insR
    split
    · unfold findO; rw [List.find?_cons_of_neg (by simpa using h)]
    · unfold findO at ih ⊢
      rw [List.find?_cons, List.find?_cons, ih]
theorem find_filter_self (id : Int) (l : List Tenant) : findO (filterL id l) id = none := by
  unfold findO filterL
  rw [List.find?_eq_none]
  intro x hx
  simpa using (List.mem_filter.1 hx).2
theorem find_filter_other {id other : Int} (h : id ≠ other) : ∀ l : List Tenant, findO (filterL id l) other = findO l other
  | [] => rfl
  | z :: l => by
    have ih := find_filter_other h l
    by_cases hz : z.id = id
    · rw [filterL_cons_eq hz, ih]; unfold findO; rw [List.find?_cons_of_neg (by simp; omega)]
    · rw [filterL_cons_ne hz]; unfold findO at ih ⊢; rw [List.find?_cons, List.find?_cons, ih]
theorem tensOk_filter {l : List Tenant} (id : Int) (h : tensOk 0 l = true) : tensOk 0 (filterL id l) = true := by
  obtain ⟨h1, h2⟩ := tensOk_iff.1 h
  exact tensOk_iff.2 ⟨fun x hx => h1 x (List.mem_filter.1 hx).1, h2.sublist List.filter_sublist⟩
theorem tensOk_insR {l : List Tenant} {x : Tenant} (h : tensOk 0 l = true) (hx : 0 < x.id) (ho : okT x = true) (hn : ∀ y ∈ l, y.id ≠ x.id) : tensOk 0 (insR x l) = true := by
  obtain ⟨h1, h2⟩ := tensOk_iff.1 h
  refine tensOk_iff.2 ⟨fun y hy => ?_, insR_sorted h2 hn⟩
  rcases mem_insR.1 hy with rfl | hy
  · exact ⟨hx, ho⟩
  · exact h1 y hy
theorem filterL_ne (id : Int) (l : List Tenant) : ∀ y ∈ filterL id l, y.id ≠ id := fun y hy => by simpa using (List.mem_filter.1 hy).2
/-- With a tenant that may be. -/
theorem withL_facts {ts : List Tenant} {x : Tenant} (h : tensOk 0 ts = true) (hx : 0 < x.id) (ho : okT x = true) :
    tensOk 0 (withL x ts) = true ∧ findO (withL x ts) x.id = some x ∧ ∀ other, other ≠ x.id → findO (withL x ts) other = findO ts other := by
  rw [withL_eq x h]
  refine ⟨tensOk_insR (tensOk_filter _ h) hx ho (filterL_ne _ _), find_insR_self (filterL_ne _ _), fun other hne => ?_⟩
  rw [find_insR_other hne.symm, find_filter_other hne.symm]
theorem withoutL_facts {ts : List Tenant} (id : Int) (h : tensOk 0 ts = true) :
    tensOk 0 (withoutL id ts) = true ∧ findO (withoutL id ts) id = none ∧ ∀ other, other ≠ id → findO (withoutL id ts) other = findO ts other := by
  rw [← filter_without id h]
  exact ⟨tensOk_filter _ h, find_filter_self _ _, fun other hne => find_filter_other hne.symm _⟩
theorem cutI_le (b burst out : Int) (h : 0 ≤ b) : cutI b burst out ≤ b := by
  have := (roomI_range burst out).1
  unfold cutI broughtI
  omega
/-- A policy put that is not refused. -/
theorem putS_facts {ts : List Tenant} {id rate burst out : Int} (h : tensOk 0 ts = true) (he : (putS ts id rate burst out).2.e = 0) :
    (putS ts id rate burst out).2 = ⟨0, rate, burst, 0, 0⟩ ∧ tensOk 0 (putS ts id rate burst out).1 = true ∧ bucketL (putS ts id rate burst out).1 id ≤ bucketL ts id ∧
    (∀ other, other ≠ id → findO (putS ts id rate burst out).1 other = findO ts other) ∧ getS (putS ts id rate burst out).1 id = ⟨0, rate, burst, 0, 0⟩ := by
  unfold putS at he ⊢
  rw [if_neg (by rw [h]; simp)] at he ⊢
  by_cases h1 : id < 1 ∨ 16 < id
  · rw [if_pos h1] at he; cases he
  · rw [if_neg h1] at he ⊢
    cases hm : mayB rate burst with
    | false => rw [if_pos hm] at he; cases he
    | true =>
      rw [if_neg (by simp)]
      have hc := cutI_range (findT ts id).1.bucket burst (max out 0)
      have hr := roomI_range burst (max out 0)
      have hb := findT_bucket id h
      have hb2 := bucketL_range id h
      obtain ⟨f1, f2, f3⟩ := withL_facts (x := ⟨id, rate, burst, cutI (findT ts id).1.bucket burst (max out 0), false⟩) h (show 0 < id by omega)
        (by unfold okT ask2 ask3 ask4; simp only [hm, Bool.and_eq_true, decide_eq_true_eq]; exact ⟨⟨⟨by omega, trivial⟩, by omega⟩, rfl⟩)
      refine ⟨rfl, f1, ?_, f3, ?_⟩
      · simp only at f2
        unfold bucketL
        rw [f2]
        have := cutI_le (findT ts id).1.bucket burst (max out 0) (by omega)
        unfold bucketL at hb
        simp only
        omega
      · rw [getS_eq id f1]; simp only at f2; rw [f2]; rfl
theorem putS_refused {ts : List Tenant} {id rate burst out : Int} (he : (putS ts id rate burst out).2.e ≠ 0) : (putS ts id rate burst out).1 = ts := by
  unfold putS at he ⊢
  split at he <;> rename_i h1
  · rw [if_pos h1]
  · rw [if_neg h1]
    split at he <;> rename_i h2
    · rw [if_pos h2]
    · rw [if_neg h2]
      split at he <;> rename_i h3
      · rw [if_pos h3]
      · exact absurd rfl he
theorem deleteS_facts {ts : List Tenant} {id out : Int} (h : tensOk 0 ts = true) :
    tensOk 0 (deleteS ts id out).1 = true ∧ (∀ other, other ≠ id → findO (deleteS ts id out).1 other = findO ts other) ∧
    ((getS ts id).e = 0 → bucketL (deleteS ts id out).1 id = 0 ∧ (getS (deleteS ts id out).1 id).e = 161) ∧ ((getS ts id).e ≠ 0 → (deleteS ts id out).1 = ts) := by
  unfold deleteS
  by_cases he : (getS ts id).e = 0
  · rw [if_neg (by simpa using he)]
    by_cases ho : 0 < out
    · rw [if_pos ho]
      have hid : 0 < id ∧ id ≤ 16 := by
        rw [getS_eq id h] at he
        cases hf : findO ts id with
        | none => rw [hf] at he; cases he
        | some x =>
          obtain ⟨h1, h2⟩ := findO_mem hf
          have := (tensOk_iff.1 h).1 x h1
          have h3 := this.2
          unfold okT at h3
          simp only [Bool.and_eq_true, decide_eq_true_eq] at h3
          have h4 := h3.1.1.1
          omega
      obtain ⟨f1, f2, f3⟩ := withL_facts (x := ⟨id, 0, 0, 0, true⟩) h hid.1 (by unfold okT ask2 ask3 ask4; simp only [Bool.and_eq_true, decide_eq_true_eq]; exact ⟨⟨⟨hid.2, rfl⟩, by omega⟩, rfl⟩)
      simp only at f2
      exact ⟨f1, f3, fun _ => ⟨by unfold bucketL; rw [f2], by rw [getS_eq id f1, f2]; rfl⟩, fun h => absurd he h⟩
    · rw [if_neg ho]
      obtain ⟨f1, f2, f3⟩ := withoutL_facts id h
      exact ⟨f1, f3, fun _ => ⟨by unfold bucketL; rw [f2], by rw [getS_eq id f1, f2]; rfl⟩, fun h => absurd he h⟩
  · rw [if_pos he]
    exact ⟨h, fun _ _ => rfl, fun h => absurd h he, fun _ => rfl⟩
theorem getS_other {ts us : List Tenant} {id : Int} (h : tensOk 0 ts = true) (h2 : tensOk 0 us = true) (hf : findO us id = findO ts id) : getS us id = getS ts id := by
  rw [getS_eq id h, getS_eq id h2, hf]
theorem bucketL_other {ts us : List Tenant} {id : Int} (hf : findO us id = findO ts id) : bucketL us id = bucketL ts id := by
  unfold bucketL; rw [hf]
theorem bucketL_take {ts : List Tenant} {id : Int} {k : Nat} (hk : k < ts.length) (hno : ∀ j (h : j < ts.length), j < k → (ts[j].id == id) = false) (h : (ts[k].id == id) = true) : bucketL ts id = ts[k].bucket := by
  have : findO ts id = some ts[k] := by
    unfold findO
    rw [List.find?_eq_some_iff_getElem]
    exact ⟨h, k, hk, rfl, fun j hj => by rw [hno j (by omega) hj]; rfl⟩
  unfold bucketL; rw [this]
theorem bucketL_none {ts : List Tenant} {id : Int} (hno : ∀ j (h : j < ts.length), (ts[j].id == id) = false) : bucketL ts id = 0 := by
  have : findO ts id = none := by
    unfold findO
    rw [List.find?_eq_none]
    intro x hx
    obtain ⟨j, hj, rfl⟩ := List.mem_iff_getElem.1 hx
    rw [hno j hj]; simp
  unfold bucketL; rw [this]
end Go.Proofs.Ytnpbajmpenpnbaa
