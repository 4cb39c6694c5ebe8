/- Numbers as bytes, things written and read: plain functions, no program in sight. -/
import Derived.Deep.Slices
namespace Go.Proofs.Ytlckgnemmffdkaa

/-! Numbers as bytes, the greatest first. -/
def beN : Nat → Nat → List UInt8
  | 0, _ => []
  | k + 1, u => UInt8.ofNat (u / 256 ^ k % 256) :: beN k u
def beVal (l : List UInt8) : Nat := l.foldl (fun a b => a * 256 + b.toNat) 0
theorem beN_length : ∀ k u, (beN k u).length = k
  | 0, _ => rfl
  | k + 1, u => by rw [beN, List.length_cons, beN_length k u]
theorem foldl_be : ∀ (l : List UInt8) (a : Nat), l.foldl (fun a b => a * 256 + b.toNat) a = a * 256 ^ l.length + beVal l
  | [], a => by simp [beVal]
  | b :: l, a => by
    unfold beVal
    rw [List.foldl_cons, List.foldl_cons, foldl_be l, foldl_be l (0 * 256 + b.toNat), List.length_cons, Nat.pow_succ, Nat.zero_mul, Nat.zero_add, Nat.add_mul, Nat.mul_assoc, Nat.mul_comm 256]
    omega
theorem beVal_cons (b : UInt8) (l : List UInt8) : beVal (b :: l) = b.toNat * 256 ^ l.length + beVal l := by
  show (b :: l).foldl _ 0 = _
  rw [List.foldl_cons, foldl_be, Nat.zero_mul, Nat.zero_add]
theorem beVal_lt : ∀ l : List UInt8, beVal l < 256 ^ l.length
  | [] => by simp [beVal]
  | b :: l => by
    rw [beVal_cons, List.length_cons, Nat.pow_succ]
    have h1 := beVal_lt l
    have h2 := b.toNat_lt
    have h3 : b.toNat * 256 ^ l.length ≤ 255 * 256 ^ l.length := Nat.mul_le_mul_right _ (by omega)
    omega
theorem beVal_snoc (l : List UInt8) (b : UInt8) : beVal (l ++ [b]) = beVal l * 256 + b.toNat := by
  unfold beVal; rw [List.foldl_append]; rfl
theorem beVal_beN : ∀ k u, beVal (beN k u) = u % 256 ^ k
  | 0, u => by simp [beN, beVal, Nat.mod_one]
  | k + 1, u => by
    have : u / 256 ^ k % 256 % 2 ^ 8 = u / 256 ^ k % 256 := Nat.mod_eq_of_lt (Nat.mod_lt _ (by decide))
    rw [beN, beVal_cons, beN_length, beVal_beN k u, UInt8.toNat_ofNat', this, Nat.mod_pow_succ, Nat.mul_comm, Nat.add_comm]
theorem beN_add : ∀ k a v, beN k (a * 256 ^ k + v) = beN k v
  | 0, _, _ => rfl
  | k + 1, a, v => by
    have e : a * 256 ^ (k + 1) = a * 256 * 256 ^ k := by rw [Nat.pow_succ, Nat.mul_comm (256 ^ k), Nat.mul_assoc]
    rw [beN, beN, e, beN_add k, Nat.mul_comm (a * 256), Nat.mul_add_div (Nat.pow_pos (by decide)), Nat.mul_comm a, Nat.mul_add_mod]
theorem beN_beVal : ∀ l : List UInt8, beN l.length (beVal l) = l
  | [] => rfl
  | b :: l => by
    rw [List.length_cons, beN, beVal_cons, beN_add, beN_beVal l, Nat.mul_comm, Nat.mul_add_div (Nat.pow_pos (by decide)), Nat.div_eq_of_lt (beVal_lt l), Nat.add_zero]
    have h2 := b.toNat_lt
    rw [Nat.mod_eq_of_lt (by omega)]
    simp
def u64 (n : Int) : Nat := (n % 18446744073709551616).toNat
def i64 (u : Nat) : Int := if u < 9223372036854775808 then u else u - 18446744073709551616
def InI (n : Int) : Prop := -9223372036854775808 ≤ n ∧ n < 9223372036854775808
theorem i64_u64 {n : Int} (h : InI n) : i64 (u64 n) = n := by
  unfold InI at h
  unfold i64 u64
  split <;> omega
theorem u64_i64 {u : Nat} (h : u < 18446744073709551616) : u64 (i64 u) = u := by
  unfold i64 u64
  split <;> omega
theorem i64_in {u : Nat} (h : u < 18446744073709551616) : InI (i64 u) := by
  unfold i64 InI
  split <;> omega
theorem u64_lt (n : Int) : u64 n < 18446744073709551616 := by unfold u64; omega
def be8 (n : Int) : List UInt8 := beN 8 (u64 n)
def num8 (l : List UInt8) : Int := i64 (beVal l)
theorem be8_length (n : Int) : (be8 n).length = 8 := beN_length _ _
theorem num8_be8 {n : Int} (h : InI n) : num8 (be8 n) = n := by
  unfold num8 be8
  rw [beVal_beN, Nat.mod_eq_of_lt (by have := u64_lt n; omega), i64_u64 h]
theorem be8_num8 {l : List UInt8} (h : l.length = 8) : be8 (num8 l) = l := by
  unfold num8 be8
  have h1 := beVal_lt l
  rw [h] at h1
  rw [u64_i64 (by omega)]
  have := beN_beVal l
  rw [h] at this; exact this
theorem num8_in {l : List UInt8} (h : l.length = 8) : InI (num8 l) := by
  have h1 := beVal_lt l
  rw [h] at h1
  exact i64_in (by omega)
def kindB (k : Int) : UInt8 := UInt8.ofNat (k % 256).toNat
def kindI (b : UInt8) : Int := if b.toNat < 128 then b.toNat else b.toNat - 256
theorem kindI_kindB {k : Int} (h : -128 ≤ k ∧ k < 128) : kindI (kindB k) = k := by
  unfold kindI kindB
  rw [UInt8.toNat_ofNat']
  split <;> omega
theorem kindB_kindI (b : UInt8) : kindB (kindI b) = b := by
  have h := b.toNat_lt
  unfold kindI kindB
  have : ((if b.toNat < 128 then (b.toNat : Int) else b.toNat - 256) % 256).toNat = b.toNat := by split <;> omega
  rw [this]; simp
theorem kindI_in (b : UInt8) : -128 ≤ kindI b ∧ kindI b < 128 := by
  have h := b.toNat_lt
  unfold kindI; split <;> omega
def truthB (x : Bool) : UInt8 := if x then 1 else 0

/-! Reading: what is there, or the first byte that cannot stand there. -/
abbrev Got (α : Type) := Except Nat (α × Nat)
def bindP {α β : Type} (x : Got α) (f : α → Nat → Got β) : Got β := match x with | .error e => .error e | .ok (a, q) => f a q
def needP (k : Nat) (l : List UInt8) (p : Nat) : Got (List UInt8) := if l.length - p < k then .error l.length else .ok ((l.drop p).take k, p + k)
def numP (l : List UInt8) (p : Nat) : Got Int := bindP (needP 8 l p) fun b q => .ok (num8 b, q)
def smallP (l : List UInt8) (p : Nat) : Got UInt8 := bindP (needP 1 l p) fun b q => .ok (b.headD 0, q)
def kindP (l : List UInt8) (p : Nat) : Got Int := bindP (smallP l p) fun b q => .ok (kindI b, q)
def truthP (l : List UInt8) (p : Nat) : Got Bool := bindP (smallP l p) fun b q => if 1 < b.toNat then .error (q - 1) else .ok (b.toNat == 1, q)
def countP (size : Nat) (l : List UInt8) (p : Nat) : Got Nat := bindP (numP l p) fun n q => if n < 0 ∨ n > ((l.length - q) / size : Nat) then .error p else .ok (n.toNat, q)
def bytesP (l : List UInt8) (p : Nat) : Got (List UInt8) := bindP (countP 1 l p) fun n q => needP n l q
def timesP {α : Type} (one : List UInt8 → Nat → Got α) : Nat → List UInt8 → Nat → Got (List α)
  | 0, _, p => .ok ([], p)
  | n + 1, l, p => bindP (one l p) fun x q => bindP (timesP one n l q) fun xs q => .ok (x :: xs, q)
def listP {α : Type} (size : Nat) (one : List UInt8 → Nat → Got α) (l : List UInt8) (p : Nat) : Got (List α) := bindP (countP size l p) fun n q => timesP one n l q
def readP {α : Type} (zero : α) (one : List UInt8 → Nat → Got α) (l : List UInt8) : α × Nat × Int :=
  if 1048576 < l.length then (zero, 0, 3)
  else match one l 0 with
    | .error f => (zero, f, 50)
    | .ok (x, q) => if q < l.length then (zero, q, 50) else (x, 0, 0)

/-! One written thing is read as it was, whatever stands ahead and behind. -/
def Reads {α : Type} (one : List UInt8 → Nat → Got α) (x : α) (b : List UInt8) : Prop := ∀ pre post : List UInt8, one (pre ++ b ++ post) pre.length = .ok (x, pre.length + b.length)
/-- What is read was written so. -/
def Wrote1 {α : Type} (one : List UInt8 → Nat → Got α) (enc : α → List UInt8) (good : α → Prop) : Prop := ∀ (l : List UInt8) (p : Nat) (x : α) (q : Nat), p ≤ l.length → one l p = .ok (x, q) → p ≤ q ∧ q ≤ l.length ∧ (l.drop p).take (q - p) = enc x ∧ good x
theorem need_reads (b : List UInt8) : Reads (needP b.length) b b := fun pre post => by
  unfold needP
  rw [if_neg (by simp)]
  simp
theorem bind_reads {α β : Type} {o : List UInt8 → Nat → Got α} {f : α → List UInt8 → Nat → Got β} {x : α} {y : β} {b c : List UInt8} (h : Reads o x b) (h2 : Reads (f x) y c) : Reads (fun l p => bindP (o l p) fun a q => f a l q) y (b ++ c) := fun pre post => by
  have h1 := h pre (c ++ post)
  have h3 := h2 (pre ++ b) post
  simp only [List.append_assoc] at h1 h3 ⊢
  simp only [h1, bindP]
  rw [List.length_append] at h3
  rw [h3, List.length_append, Nat.add_assoc]
theorem pure_reads {α : Type} (x : α) : Reads (fun _ p => .ok (x, p)) x [] := fun pre post => by simp
theorem map_reads {α β : Type} {o : List UInt8 → Nat → Got α} {g : α → β} {x : α} {b : List UInt8} (h : Reads o x b) : Reads (fun l p => bindP (o l p) fun a q => .ok (g a, q)) (g x) b := by
  have := bind_reads (f := fun a _ p => .ok (g a, p)) h (pure_reads (g x))
  rw [List.append_nil] at this; exact this
theorem num_reads {n : Int} (h : InI n) : Reads numP n (be8 n) := by
  have h1 := need_reads (be8 n)
  rw [be8_length] at h1
  have h2 := map_reads (g := num8) h1
  rw [num8_be8 h] at h2
  exact h2
theorem small_reads (b : UInt8) : Reads smallP b [b] := map_reads (g := fun b : List UInt8 => b.headD 0) (need_reads [b])
theorem kind_reads {k : Int} (h : -128 ≤ k ∧ k < 128) : Reads kindP k [kindB k] := by
  have h2 := map_reads (g := kindI) (small_reads (kindB k))
  rw [kindI_kindB h] at h2
  exact h2
theorem truth_reads (x : Bool) : Reads truthP x [truthB x] := fun pre post => by
  have h := small_reads (truthB x) pre post
  unfold truthP
  rw [h]
  cases x <;> rfl
theorem count_reads {size n : Nat} {c : List UInt8} (hn : n < 9223372036854775808) (hs : 0 < size) (hc : n * size ≤ c.length) (pre post : List UInt8) : countP size (pre ++ be8 n ++ (c ++ post)) pre.length = .ok (n, pre.length + 8) := by
  have h := num_reads (n := n) (by unfold InI; omega) pre (c ++ post)
  unfold countP
  rw [h]
  simp only [bindP]
  rw [be8_length, if_neg]
  · simp
  · rw [not_or]
    refine ⟨by omega, ?_⟩
    have : n ≤ ((pre ++ be8 ↑n ++ (c ++ post)).length - (pre.length + 8)) / size := by
      rw [Nat.le_div_iff_mul_le hs]
      simp only [List.length_append, be8_length]
      omega
    omega
theorem bytes_reads {d : List UInt8} (h : d.length < 9223372036854775808) : Reads bytesP d (be8 d.length ++ d) := fun pre post => by
  have h1 := count_reads (size := 1) (n := d.length) (c := d) h (by decide) (by omega) pre post
  have h2 := need_reads d (pre ++ be8 d.length) post
  unfold bytesP
  simp only [List.append_assoc] at h1 h2 ⊢
  rw [h1]
  simp only [bindP]
  rw [List.length_append, be8_length] at h2
  rw [h2, List.length_append, be8_length]; simp [Nat.add_assoc]
theorem times_reads {α : Type} {one : List UInt8 → Nat → Got α} {enc : α → List UInt8} : ∀ {xs : List α}, (∀ x ∈ xs, Reads one x (enc x)) → Reads (timesP one xs.length) xs (xs.flatMap enc)
  | [], _ => pure_reads []
  | x :: xs, h => by
    have h1 := h x (List.mem_cons_self ..)
    have h2 := times_reads (xs := xs) fun y hy => h y (List.mem_cons_of_mem _ hy)
    exact bind_reads (f := fun a l q => bindP (timesP one xs.length l q) fun ys q => .ok (a :: ys, q)) h1 (map_reads (g := fun ys => x :: ys) h2)
theorem list_reads {α : Type} {one : List UInt8 → Nat → Got α} {enc : α → List UInt8} {size : Nat} {xs : List α} (hs : 0 < size) (hl : xs.length < 9223372036854775808) (h : ∀ x ∈ xs, Reads one x (enc x)) (hz : ∀ x ∈ xs, size ≤ (enc x).length) :
    Reads (listP size one) xs (be8 xs.length ++ xs.flatMap enc) := fun pre post => by
  have hlen : xs.length * size ≤ (xs.flatMap enc).length := by
    induction xs with
    | nil => simp
    | cons x xs ih =>
      have h1 := hz x (List.mem_cons_self ..)
      have h2 := ih (by rw [List.length_cons] at hl; omega) (fun y hy => h y (List.mem_cons_of_mem _ hy)) (fun y hy => hz y (List.mem_cons_of_mem _ hy))
      rw [List.flatMap_cons, List.length_append, List.length_cons, Nat.succ_mul]; omega
  have h1 := count_reads (size := size) (n := xs.length) (c := xs.flatMap enc) hl hs hlen pre post
  have h2 := times_reads h (pre ++ be8 xs.length) post
  unfold listP
  simp only [List.append_assoc] at h1 h2 ⊢
  rw [h1]
  simp only [bindP]
  rw [List.length_append, be8_length] at h2
  rw [h2, List.length_append, be8_length]; simp [Nat.add_assoc]
/-! And back. -/
theorem need_wrote (k : Nat) : Wrote1 (needP k) (fun b => b) (fun b => b.length = k) := fun l p x q hp h => by
  unfold needP at h
  split at h
  · cases h
  · rename_i hk
    simp only [Except.ok.injEq, Prod.mk.injEq] at h
    obtain ⟨rfl, rfl⟩ := h
    refine ⟨by omega, by omega, by rw [Nat.add_sub_cancel_left], ?_⟩
    show (List.take k (List.drop p l)).length = k
    rw [List.length_take, List.length_drop]; omega
theorem take_two {l : List UInt8} {p q r : Nat} (h1 : p ≤ q) (h2 : q ≤ r) : (l.drop p).take (r - p) = (l.drop p).take (q - p) ++ (l.drop q).take (r - q) := by
  have e : r - p = (q - p) + (r - q) := by omega
  rw [e, List.take_add, List.drop_drop]
  congr 3; omega
theorem bind_wrote {α β : Type} {o : List UInt8 → Nat → Got α} {f : α → List UInt8 → Nat → Got β} {e1 : α → List UInt8} {g1 : α → Prop} {e2 : α → β → List UInt8} {g2 : α → β → Prop} (h : Wrote1 o e1 g1) (h2 : ∀ a, g1 a → Wrote1 (f a) (e2 a) (g2 a))
    {l : List UInt8} {p q : Nat} {y : β} (hp : p ≤ l.length) (hr : (bindP (o l p) fun a q => f a l q) = .ok (y, q)) : ∃ a, g1 a ∧ p ≤ q ∧ q ≤ l.length ∧ (l.drop p).take (q - p) = e1 a ++ e2 a y ∧ g2 a y := by
  cases ho : o l p with
  | error e => rw [ho] at hr; cases hr
  | ok v =>
    obtain ⟨a, m⟩ := v
    rw [ho] at hr
    simp only [bindP] at hr
    obtain ⟨i1, i2, i3, i4⟩ := h l p a m hp ho
    obtain ⟨j1, j2, j3, j4⟩ := h2 a i4 l m y q i2 hr
    exact ⟨a, i4, by omega, j2, by rw [take_two i1 j1, i3, j3], j4⟩
theorem pure_wrote {α : Type} (x : α) : Wrote1 (fun _ p => .ok (x, p)) (fun _ => []) (fun y => y = x) := fun l p y q hp h => by
  simp only [Except.ok.injEq, Prod.mk.injEq] at h
  obtain ⟨rfl, rfl⟩ := h
  simp [hp]
end Go.Proofs.Ytlckgnemmffdkaa
