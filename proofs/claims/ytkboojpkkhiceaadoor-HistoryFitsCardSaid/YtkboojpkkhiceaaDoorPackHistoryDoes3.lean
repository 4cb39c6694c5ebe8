import Derived.Test.YtkboojpkkhiceaaDoorHisKey
import Derived.Test.YtkboojpkkhiceaaDoorPackHistoryDoes1
import Derived.Test.YtkboojpkkhiceaaDoorHisDoNo
import Derived.Test.YtkboojpkkhiceaaDoorHisDoPut
import Derived.Test.YtkboojpkkhiceaaDoorHisDoGet
import Derived.WalkSmall
import Derived.Test.YtkboojpkkhiceaaDoorPackHistoryDoes2
import Derived.Test.YtkboojpkkhiceaaDoorHisRefDoGo
set_option linter.unusedVariables false
set_option linter.unusedSimpArgs false
/- A table's text tells the table; spots as keys of a map of bools. -/
namespace Go.Proofs.YtkboojpkkhiceaaDoor
open Go.ChangeShapes Go.WideShapes Go.ChangeAt Go.RowKit Go.Maps
set_option maxRecDepth 100000

def decVal (l : List UInt8) : Nat := l.foldl (fun n b => n * 10 + (b.toNat - 48)) 0
theorem decVal_snoc (l : List UInt8) (b : UInt8) : decVal (l ++ [b]) = decVal l * 10 + (b.toNat - 48) := by unfold decVal; rw [List.foldl_append]; rfl
theorem digit_nat {u : Nat} (h : u < 10) : (UInt8.ofNat (48 + u)).toNat = 48 + u := by rw [UInt8.toNat_ofNat']; omega
theorem decVal_dec (u : Nat) : decVal (Lib.decDigits u) = u := by
  induction u using Nat.strongRecOn with
  | _ u ih =>
    rw [Lib.decDigits]
    split
    · rename_i h
      show 0 * 10 + _ = _
      rw [digit_nat h]; omega
    · rename_i h
      rw [decVal_snoc, ih (u / 10) (by omega), digit_nat (by omega)]; omega
theorem dec_digit (u : Nat) : ∀ b ∈ Lib.decDigits u, 48 ≤ b.toNat := by
  induction u using Nat.strongRecOn with
  | _ u ih =>
    intro b hb
    rw [Lib.decDigits] at hb
    split at hb
    · rename_i h
      rw [List.mem_singleton] at hb
      subst hb; rw [digit_nat h]; omega
    · rename_i h
      rcases List.mem_append.1 hb with hb | hb
      · exact ih (u / 10) (by omega) b hb
      · rw [List.mem_singleton] at hb
        subst hb; rw [digit_nat (by omega)]; omega
theorem split_at : ∀ (a b : List UInt8) (r s : List UInt8), (∀ x ∈ a, 48 ≤ x.toNat) → (∀ x ∈ b, 48 ≤ x.toNat) → a ++ 32 :: r = b ++ 32 :: s → a = b ∧ r = s
  | [], [], r, s, _, _, h => by simpa using h
  | [], y :: b, r, s, _, hb, h => by
    simp only [List.nil_append, List.cons_append, List.cons.injEq] at h
    have := hb y (List.mem_cons_self ..)
    rw [← h.1] at this; exact absurd this (by decide)
  | x :: a, [], r, s, ha, _, h => by
    simp only [List.nil_append, List.cons_append, List.cons.injEq] at h
    have := ha x (List.mem_cons_self ..)
    rw [h.1] at this; exact absurd this (by decide)
  | x :: a, y :: b, r, s, ha, hb, h => by
    simp only [List.cons_append, List.cons.injEq] at h
    obtain ⟨h1, h2⟩ := split_at a b r s (fun z hz => ha z (List.mem_cons_of_mem _ hz)) (fun z hz => hb z (List.mem_cons_of_mem _ hz)) h.2
    exact ⟨by rw [h.1, h1], h2⟩
theorem numB_split {x y : Int} {r s : List UInt8} (hx : 0 ≤ x) (hy : 0 ≤ y) (h : numB x ++ r = numB y ++ s) : x = y ∧ r = s := by
  unfold numB Lib.itoa at h
  rw [if_neg (by omega), if_neg (by omega)] at h
  simp only [List.append_assoc, List.singleton_append] at h
  obtain ⟨h1, h2⟩ := split_at _ _ r s (dec_digit _) (dec_digit _) h
  have h3 := congrArg decVal h1
  rw [decVal_dec, decVal_dec] at h3
  exact ⟨by omega, h2⟩
theorem tab_nums {t : List Force} (h : tabOk t = true) : ∀ f ∈ t, f.tick = 0 ∧ 0 ≤ f.tenant ∧ f.tenant ≤ 16 ∧ 0 ≤ f.rate ∧ f.rate ≤ 1000000 ∧ 0 ≤ f.burst ∧ f.burst ≤ 1000000 := fun f hf => by
  have h2 := (chainOk_iff.1 h).1 f hf
  have h3 := h2.2
  unfold goodT mayB at h3
  simp only [Bool.and_eq_true, decide_eq_true_eq] at h3
  exact ⟨h3.1.1, by have := h2.1; omega, h3.1.2, h3.2.1, h3.2.2.1, h3.2.2.2.1, h3.2.2.2.2⟩
theorem keyB_inj : ∀ {t t' : List Force}, (∀ f ∈ t, f.tick = 0 ∧ 0 ≤ f.tenant ∧ 0 ≤ f.rate ∧ 0 ≤ f.burst) → (∀ f ∈ t', f.tick = 0 ∧ 0 ≤ f.tenant ∧ 0 ≤ f.rate ∧ 0 ≤ f.burst) → keyB t = keyB t' → t = t'
  | [], [], _, _, _ => rfl
  | [], f :: t', _, _, h => by
    have := congrArg List.length h
    unfold keyB rowB numB at this; simp at this
  | f :: t, [], _, _, h => by
    have := congrArg List.length h
    unfold keyB rowB numB at this; simp at this
  | f :: t, g :: t', h1, h2, h => by
    have a := h1 f (List.mem_cons_self ..)
    have b := h2 g (List.mem_cons_self ..)
    unfold keyB rowB at h
    rw [List.flatMap_cons, List.flatMap_cons] at h
    simp only [List.append_assoc] at h
    obtain ⟨e1, h⟩ := numB_split a.2.1 b.2.1 h
    obtain ⟨e2, h⟩ := numB_split a.2.2.1 b.2.2.1 h
    obtain ⟨e3, h⟩ := numB_split a.2.2.2 b.2.2.2 h
    have e4 := keyB_inj (fun x hx => h1 x (List.mem_cons_of_mem _ hx)) (fun x hx => h2 x (List.mem_cons_of_mem _ hx)) h
    have e0 : f.tick = g.tick := by rw [a.1, b.1]
    obtain ⟨f0, f1, f2, f3⟩ := f
    obtain ⟨g0, g1, g2, g3⟩ := g
    simp only at e0 e1 e2 e3
    rw [e0, e1, e2, e3, e4]
theorem keyB_tab {t t' : List Force} (h : tabOk t = true) (h' : tabOk t' = true) (hk : keyB t = keyB t') : t = t' :=
  keyB_inj (fun f hf => ⟨(tab_nums h f hf).1, (tab_nums h f hf).2.1, (tab_nums h f hf).2.2.2.1, (tab_nums h f hf).2.2.2.2.2.1⟩) (fun f hf => ⟨(tab_nums h' f hf).1, (tab_nums h' f hf).2.1, (tab_nums h' f hf).2.2.2.1, (tab_nums h' f hf).2.2.2.2.2.1⟩) hk
theorem tab_ini {t : List Force} (h : tabOk t = true) : ∀ f ∈ t, InI f.tenant ∧ InI f.rate ∧ InI f.burst := fun f hf => by
  have := tab_nums h f hf
  unfold InI; omega
theorem keyB_small {t : List Force} (h : tabOk t = true) : (keyB t).length ≤ 1056 := by
  have h1 := keyB_len t (tab_ini h)
  have h2 := tabOk_len h
  have : t.length * 66 ≤ 16 * 66 := Nat.mul_le_mul_right _ h2
  omega

theorem keyOf_struct2 {P : Program} {k e1 e2 : TypeId} {q : IntKind} {f1 f2 : Field} (hu : P.underlying k = some (.struct #[f1, f2])) (ht1 : f1.type = e1) (ho1 : f1.offset = 0) (hn1 : (f1.name != "_") = true) (ht2 : f2.type = e2) (ho2 : f2.offset = 1) (hn2 : (f2.name != "_") = true)
    (h1 : P.cellsOf k = 2) (h2 : P.cellsOf e1 = 1) (h3 : P.cellsOf e2 = 1) (hkt : P.keyType k = true) (he1 : P.underlying e1 = some (.int q)) (he2 : P.underlying e2 = some .string) (hsz : ∃ m, P.types.size = m + 1) {a : Int} (wa : (Lit.int q a).wf = true) {s : ByteArray} (ws : s.size ≤ maxLen) :
    keyOf P k (.agg #[.int q a, .string s]) = some (.string (keyBytes [.int q a, .string s.data.toList])) := by
  obtain ⟨m, hm⟩ := hsz
  unfold keyOf
  simp only [hu]
  rw [if_pos (by simp [hkt, Value.formed, hu, h1]), hm]
  unfold Program.keyLits
  simp only [hu, Value.cells]
  rw [if_pos (by simp [h1, hn1, hn2])]
  simp [ht1, ht2, ho1, ho2, h2, h3, Program.keyLits, he1, he2, wa, ws]
/-- Spots as keys. -/
def keySpot : KeyKind Tryd.prog 67 (Nat × List UInt8) where
  keyed := Keyed.of_law (deep_law_laid (by kernel_rfl) (m := 20) (by omega) (of_decide_eq_true (by kernel_rfl)) (by kernel_rfl) (by kernel_rfl))
  enc p := .agg #[.int .u16 p.1, .string ⟨p.2.toArray⟩]
  kl p := .string (keyBytes [.int .u16 p.1, .string p.2])
  good p := p.1 < 65536 ∧ p.2.length ≤ 2000
  key p h := keyOf_struct2 Tryd.underlying67 rfl rfl rfl rfl rfl rfl (by kernel_rfl) (by kernel_rfl) (by kernel_rfl) (by kernel_rfl) Tryd.underlying64 Tryd.underlying9 ⟨Tryd.prog.types.size - 1, by kernel_rfl⟩ (by have := h.1; simp [Lit.wf, IntKind.min, IntKind.max, IntKind.signed, IntKind.bits]; omega) (by show p.2.toArray.size ≤ _; have := h.2; unfold maxLen; simp; omega)
  inj x y h := by
    simp at h
    exact Prod.ext (by omega) h.2
section
variable {P : Program} {k e : TypeId} {κ : Type} {K : KeyKind P k κ}
/-- The block is a map that reads as the function. -/
def MapB (K : KeyKind P k κ) (e : TypeId) (w : World) (b n : Nat) (f : κ → Bool) : Prop :=
  ∃ D : DataW Unit, w.ownsMap P k (plainElem P e) b n D ∧ ∀ x, K.good x → D.atKey (K.kl x) (.lit (.bool false)) = .lit (.bool (f x))
def updB [DecidableEq κ] (f : κ → Bool) (x : κ) : κ → Bool := fun y => if y = x then true else f y
theorem MapB.made (w : World) : MapB K e (w.alloc (.map #[] 0)) w.heap.size 0 (fun _ => false) := ⟨.map [], World.ownsMap_made _ _ _ _, fun _ _ => rfl⟩
theorem MapB.block {w w' : World} {b n : Nat} {f : κ → Bool} (h : MapB K e w b n f) (hb : w'.heap[b]? = w.heap[b]?) : MapB K e w' b n f := by
  obtain ⟨D, ⟨es, clock, h1, h2⟩, hf⟩ := h
  exact ⟨D, ⟨es, clock, by rw [hb]; exact h1, h2⟩, hf⟩
theorem MapB.lt {w : World} {b n : Nat} {f : κ → Bool} (h : MapB K e w b n f) : b < w.heap.size := by
  obtain ⟨D, ⟨es, clock, h1, _⟩, _⟩ := h
  exact (Array.getElem?_eq_some_iff.1 h1).1
theorem MapB.mono {w : World} {b n m : Nat} {f : κ → Bool} (h : MapB K e w b n f) (hn : n ≤ m) : MapB K e w b m f :=
  let ⟨D, h1, h2⟩ := h; ⟨D, h1.mono hn, h2⟩
theorem wpList_putB [DecidableEq κ] {w : World} {ops : Array Oper} {rest : List Oper} {o : Oper} {a : Act} {Q : Exit → Act → World → Prop} (K : KeyKind P k κ) {t : TypeId} (ht : P.underlying t = some (.map k e)) (he : P.underlying e = some .bool) (hg : o.guard = none)
    (m x v : Operand) (hop : o.op = Op.mapUpdate t m x v) (b n : Nat) (f : κ → Bool) (hm : a.eval m = .map (some b)) (hown : MapB K e w b n f) (hn : n < maxLen) (y : κ) (hy : K.good y) (hx : a.eval x = K.enc y) (hv : a.eval v = .bool true)
    (h : ∀ w', MapB K e w' b (n + 1) (updB f y) → w.grownBy w' (some b) → wpList P ops Q rest (a.put o.dst undef) w') : wpList P ops Q (o :: rest) a w := by
  obtain ⟨D, hD, hf⟩ := hown
  refine wpList_mapUpdate_own w hg m x v t hop k e K.keyed ht (plainElem P e) b n D hm hD hn _ _ (K.kl y) hx hv (K.key y hy) (.lit (.bool true)) [] (plainElem_bool he true) ?_
  intro w' hD' hg'
  refine h w' ⟨_, hD', fun y' hy' => ?_⟩ hg'
  have hmap : IsMap D := by
    obtain ⟨es, clock, _, _, _, rfl⟩ := hD
    exact ⟨_, rfl⟩
  unfold updB
  by_cases e : y' = y
  · subst e
    rw [if_pos rfl]
    exact atKey_put_same hmap (K.isKey hy) _ _
  · have hne : K.kl y' ≠ K.kl y := fun h => e (K.same hy' hy h)
    rw [if_neg e, atKey_put_other hne]
    exact hf y' hy'
theorem wpList_getB {w : World} {ops : Array Oper} {rest : List Oper} {o : Oper} {a : Act} {Q : Exit → Act → World → Prop} (K : KeyKind P k κ) {t : TypeId} (ht : P.underlying t = some (.map k e)) (he : P.underlying e = some .bool) (hz : ∀ w, (zeroValue e).run P w = .ok (.bool false) w) (hg : o.guard = none)
    (m x : Operand) (hop : o.op = Op.lookup t m x false) (b n : Nat) (f : κ → Bool) (hm : a.eval m = .map (some b)) (hown : MapB K e w b n f) (y : κ) (hy : K.good y) (hx : a.eval x = K.enc y)
    (h : wpList P ops Q rest (a.put o.dst (.bool (f y))) w) : wpList P ops Q (o :: rest) a w := by
  obtain ⟨D, hD, hf⟩ := hown
  have h1 := hf y hy
  obtain ⟨v, ps, hrun, hv⟩ := hD.lookup K.keyed ht (hz w) (plainElem_bool he false) (K.key y hy)
  rw [h1] at hv
  refine wpList_plain hg fun K' hK' => ?_
  unfold Oper.wp
  simp [execOp, hop, hm, hx, hrun, Result.andThen]
  have hvv : v = .bool (f y) := by
    unfold plainElem at hv
    rw [he] at hv
    cases v <;> simp at hv
    exact congrArg Value.bool hv.1
  rw [hvv]
  exact hK' _ _ h
end
end Go.Proofs.YtkboojpkkhiceaaDoor

/- What a table answers, the program's side, whole. -/
namespace Go.Proofs.YtkboojpkkhiceaaDoor
open Go.ChangeShapes Go.WideShapes Go.ChangeAt Go.RowKit
set_option maxRecDepth 100000

theorem hdo_any (t : List Force) (x : HCmd) (a : Option Addr) (n c : Nat) (w : World) (hn : t.length = n) (hl : n ≤ 1000) (hc : a = none → c = 0) (hnc : n ≤ c) (hr : LRow layFce w a t) :
    Calls Tryd.prog 9 #[.slice a n c, x.agg] w (RetFA w (doF t x).1 (doF t x).2) := by
  cases hok : tabOk t with
  | false =>
    rw [do_bad (by rw [hok]; simp)]
    exact hdo_tab t x a n c w hn hl hc hnc hr hok
  | true =>
    cases has : asksC x with
    | false =>
      rw [do_bad (by rw [has]; simp)]
      exact hdo_asks t x a n c w hn hl hc hnc hr hok has
    | true =>
      have hb := And.intro hok has
      have hp := (tab_parts hok).2
      by_cases hhit : ∃ y, t[lessK Force.tenant x.tenant t]? = some y ∧ y.tenant = x.tenant
      · obtain ⟨y, h1, h2⟩ := hhit
        by_cases hk : x.kind = 1
        · cases hm : mayB x.rate x.burst with
          | false => rw [do_rate hb hk hm]; exact hdo_rate_h t x a n c w hn hl hc hnc hr hok has hk hm y h1 h2
          | true =>
            rw [do_put hb hk hm, insK_some (key := Force.tenant) (x := ⟨0, x.tenant, x.rate, x.burst⟩) h1 h2]
            exact hdo_set t x a n c w hn hl hc hnc hr hok has hk hm y h1 h2
        · have hf := find_hit hp h1 h2
          by_cases hk2 : x.kind = 2
          · rw [do_get hb hk2 hf]; exact hdo_get t x a n c w hn hl hc hnc hr hok has hk2 y h1 h2
          · rw [do_del hb hk hk2 hf, filter_erase hp h1 h2]
            exact hdo_del t x a n c w hn hl hc hnc hr hok has hk hk2 y h1 h2
      · have hmiss : ∀ y, t[lessK Force.tenant x.tenant t]? = some y → y.tenant ≠ x.tenant := fun y h1 h2 => hhit ⟨y, h1, h2⟩
        by_cases hk : x.kind = 1
        · cases hm : mayB x.rate x.burst with
          | false => rw [do_rate hb hk hm]; exact hdo_rate_m t x a n c w hn hl hc hnc hr hok has hk hm hmiss
          | true =>
            rw [do_put hb hk hm, insK_none (key := Force.tenant) (x := ⟨0, x.tenant, x.rate, x.burst⟩) hmiss]
            exact hdo_insert t x a n c w hn hl hc hnc hr hok has hk hm hmiss
        · rw [do_none hb hk (find_miss hp hmiss)]
          exact hdo_none t x a n c w hn hl hc hnc hr hok has hk hmiss
end Go.Proofs.YtkboojpkkhiceaaDoor

/- What a search for an order stands on: its variables, what has turned. -/
namespace Go.Proofs.YtkboojpkkhiceaaDoor
open Go.ChangeShapes Go.WideShapes Go.ChangeAt Go.RowKit Go.Maps
set_option maxRecDepth 100000

def ptr (g : Nat) : Value := .pointer (some ⟨g, 0, none⟩)
def findV (gl gs go gf : Nat) : Value := .func (.func 33) #[] #[.pointer (some ⟨gl, 0, none⟩), .pointer (some ⟨gs, 0, none⟩), .pointer (some ⟨go, 0, none⟩), .pointer (some ⟨gf, 0, none⟩)]
def nums (os : List Nat) : List Value := os.map fun k : Nat => .int .i64 (k : Int)
structure Geo (E B gl gs go gf mb : Nat) : Prop where
  el : E ≤ gl
  eo : E ≤ go
  em : E ≤ mb
  lb : gl < B
  sb : gs < B
  ob : go < B
  fb : gf < B
  mb' : mb < B
  lo : gl ≠ go
  lm : gl ≠ mb
  so : gs ≠ go
  sm : gs ≠ mb
  fo : gf ≠ go
  fm : gf ≠ mb
  om : go ≠ mb
structure Env (l : List HCall) (al : Option Addr) (cl B gl gs go gf mb : Nat) (w : World) (os : List Nat) (ao : Option Addr) (co n : Nat) (seen : Nat × List UInt8 → Bool) : Prop where
  bl : Box w gl [.slice al l.length cl]
  rl : LRow layCal w al l
  bs : Box w gs [.map (some mb)]
  mp : MapB keySpot 4 w mb n seen
  bo : Box w go [.slice ao os.length co]
  ow : w.ownsRow B 3 1 (.slice ao os.length co) os.length (nums os)
  bf : Box w gf [findV gl gs go gf]
  siz : B ≤ w.heap.size
/-- What a search leaves as it was. -/
structure Fr (go mb : Nat) (ao : Option Addr) (w w' : World) : Prop where
  os : w'.os = w.os
  tape : w'.tape = w.tape
  output : w'.output = w.output
  size : w.heap.size ≤ w'.heap.size
  block : ∀ k, k < w.heap.size → k ≠ go → k ≠ mb → (∀ o s, ao ≠ some ⟨k, o, s⟩) → w'.heap[k]? = w.heap[k]?
theorem Fr.of {go mb : Nat} {ao : Option Addr} {w w' : World} (h : Below w.heap.size w w') : Fr go mb ao w w' := ⟨h.os, h.tape, h.output, h.size, fun k hk _ _ _ => h.block k hk⟩
theorem Fr.trans {go mb : Nat} {ao a1 : Option Addr} {w w1 w2 : World} (h : Fr go mb ao w w1) (h2 : Fr go mb a1 w1 w2) (hn : Near w.heap.size ao a1) : Fr go mb ao w w2 :=
  ⟨h2.os.trans h.os, h2.tape.trans h.tape, h2.output.trans h.output, Nat.le_trans h.size h2.size, fun k hk h3 h4 h5 => (h2.block k (Nat.lt_of_lt_of_le hk h.size) h3 h4 (fun o s e => by
    rcases hn k o s e with h6 | ⟨o', s', h6⟩
    · omega
    · exact h5 o' s' h6)).trans (h.block k hk h3 h4 h5)⟩
theorem near_trans {B B' : Nat} {a b c : Option Addr} (h : Near B a b) (h2 : Near B' b c) (hB : B ≤ B') : Near B a c := fun k o s e => by
  rcases h2 k o s e with h3 | ⟨o', s', h3⟩
  · exact .inl (Nat.le_trans hB h3)
  · exact h k o' s' h3
theorem near_down {B B' : Nat} {a b : Option Addr} (h : Near B a b) (hB : B' ≤ B) : Near B' a b := fun k o s e => (h k o s e).imp (fun h1 => Nat.le_trans hB h1) id
/-- A row that no search turns. -/
def Away (go mb : Nat) (ao a : Option Addr) : Prop := ∀ b o s, a = some ⟨b, o, s⟩ → b ≠ go ∧ b ≠ mb ∧ ∀ o' s', ao ≠ some ⟨b, o', s'⟩
theorem Fr.row {go mb : Nat} {ao a : Option Addr} {w w' : World} {xs : List Value} (h : Fr go mb ao w w') (hr : Row w a xs) (ha : Away go mb ao a) : Row w' a xs := by
  rcases hr with hr | ⟨b, o, rfl, hc⟩
  · exact .inl hr
  · obtain ⟨h1, h2, h3⟩ := ha b o none rfl
    exact .inr ⟨b, o, rfl, fun i hi => by rw [World.cell?_of_block (w := w) (h.block b (World.block_lt_of_cell? w _ (hc i hi)) h1 h2 h3)]; exact hc i hi⟩
theorem Fr.box {go mb : Nat} {ao : Option Addr} {w w' : World} {g : Nat} {cs : List Value} (h : Fr go mb ao w w') (hb : Box w g cs) (h0 : 0 < cs.length) (h1 : g ≠ go) (h2 : g ≠ mb) (h3 : ∀ o s, ao ≠ some ⟨g, o, s⟩) : Box w' g cs :=
  hb.block (h.block g (hb.lt h0) h1 h2 h3)
theorem Fr.rowT {go mb : Nat} {ao a : Option Addr} {w w' : World} {t : List Force} (h : Fr go mb ao w w') (hr : LRow layFce w a t) (ha : t = [] ∨ Away go mb ao a) : LRow layFce w' a t := by
  rcases ha with rfl | ha
  · exact .inl rfl
  · exact h.row hr ha
theorem row_ltT {w : World} {a : Option Addr} {t : List Force} (hr : LRow layFce w a t) (h0 : t ≠ []) {b o : Nat} {s : Option Nat} (e : a = some ⟨b, o, s⟩) : b < w.heap.size := by
  have hne : t.flatMap layFce.cells ≠ [] := fun h => by
    have h4 := congrArg List.length h
    rw [layFce.length, List.length_nil, Nat.mul_eq_zero] at h4
    have := layFce.pos
    rcases h4 with h4 | h4
    · exact h0 (List.eq_nil_of_length_eq_zero h4)
    · omega
  rcases hr with h | ⟨b', o', h, hc⟩
  · exact absurd h hne
  · rw [e] at h
    simp only [Option.some.injEq, Addr.mk.injEq] at h
    obtain ⟨rfl, rfl, rfl⟩ := h
    exact Row.lt (.inr ⟨_, _, rfl, hc⟩) hne
theorem own_place {w : World} {B n c : Nat} {e : TypeId} {size : Nat} {a : Option Addr} {xs : List Value} (h : w.ownsRow B e size (.slice a n c) n xs) : ∀ b o s, a = some ⟨b, o, s⟩ → B ≤ b ∧ b < w.heap.size := fun b o s ha => by
  rcases h.2 with ⟨hv, _⟩ | ⟨g, cap, cur, hv, hB, hg, _⟩
  · rw [ha] at hv; cases hv
  · simp only [Value.slice.injEq] at hv
    rw [ha] at hv
    obtain ⟨h1, _⟩ := hv
    simp only [Option.some.injEq, Addr.mk.injEq] at h1
    rw [h1.1]; exact ⟨hB, (Array.getElem?_eq_some_iff.1 hg).1⟩
theorem own_keep {w w' : World} {B n c : Nat} {e : TypeId} {size : Nat} {a : Option Addr} {xs : List Value} (h : w.ownsRow B e size (.slice a n c) n xs) (hk : ∀ k, B ≤ k → k < w.heap.size → w'.heap[k]? = w.heap[k]?) : w'.ownsRow B e size (.slice a n c) n xs := by
  obtain ⟨h1, h2⟩ := h
  refine ⟨h1, ?_⟩
  rcases h2 with h2 | ⟨g, cap, cur, h3, h4, h5, h6⟩
  · exact .inl h2
  · refine .inr ⟨g, cap, cur, h3, h4, ?_, h6⟩
    rw [hk g h4 ((Array.getElem?_eq_some_iff.1 h5).1)]; exact h5
section
variable {l : List HCall} {al : Option Addr} {cl E B gl gs go gf mb : Nat} {w w' : World} {os : List Nat} {ao : Option Addr} {co n : Nat} {seen : Nat × List UInt8 → Bool}
theorem Env.next (h : Env l al cl B gl gs go gf mb w os ao co n seen) (hb : Below w.heap.size w w') : Env l al cl B gl gs go gf mb w' os ao co n seen :=
  ⟨h.bl.next (by simp) hb, Row.below h.rl hb, h.bs.next (by simp) hb, h.mp.block (hb.block _ h.mp.lt), h.bo.next (by simp) hb, own_keep h.ow (fun k _ hk => hb.block k hk), h.bf.next (by simp) hb, Nat.le_trans h.siz hb.size⟩
/-- All but the order's variable, the map and the order's row stand: so do the calls and the other variables. -/
theorem Env.stay (h : Env l al cl B gl gs go gf mb w os ao co n seen) (G : Geo E B gl gs go gf mb) (hal : ∀ b o s, al = some ⟨b, o, s⟩ → b < E) {ax : Option Addr} (hax : ∀ b o s, ax = some ⟨b, o, s⟩ → B ≤ b) (hf : Fr go mb ax w w') :
    Box w' gl [.slice al l.length cl] ∧ LRow layCal w' al l ∧ Box w' gs [.map (some mb)] ∧ Box w' gf [findV gl gs go gf] := by
  refine ⟨hf.box h.bl (by simp) G.lo G.lm (fun o s e => ?_), hf.row h.rl (fun b o s e => ⟨?_, ?_, fun o' s' e' => ?_⟩), hf.box h.bs (by simp) G.so G.sm (fun o s e => ?_), hf.box h.bf (by simp) G.fo G.fm (fun o s e => ?_)⟩
  · have := hax _ _ _ e; have := G.lb; omega
  · have := hal _ _ _ e; have := G.eo; omega
  · have := hal _ _ _ e; have := G.em; omega
  · have h1 := hal _ _ _ e; have h2 := hax _ _ _ e'; have h3 := G.el; have h4 := G.lb; omega
  · have := hax _ _ _ e; have := G.sb; omega
  · have := hax _ _ _ e; have := G.fb; omega
theorem Env.gobox (h : Env l al cl B gl gs go gf mb w os ao co n seen) (G : Geo E B gl gs go gf mb) {o1 : Obj} {w5 : World} (hg : (w.alloc o1).grownBy w5 (Value.slice ao os.length co).ownBlock) : Box w5 go [.slice ao os.length co] := by
  have hlt := h.bo.lt (by simp)
  refine h.bo.block ((hg.block go (by simp; omega) (fun e => ?_)).trans (((Below.refl w.heap.size w).alloc (Nat.le_refl _) o1).block go hlt))
  cases ao with
  | none => simp [Value.ownBlock] at e
  | some ad =>
    obtain ⟨y, u, v⟩ := ad
    simp [Value.ownBlock] at e
    subst e
    have := (own_place h.ow _ _ _ rfl).1
    have := G.ob; omega
/-- One call more in the order. -/
theorem Env.push (h : Env l al cl B gl gs go gf mb w os ao co n seen) (G : Geo E B gl gs go gf mb) (hal : ∀ b o s, al = some ⟨b, o, s⟩ → b < E) {o1 : Obj} {w5 w6 : World} {a' : Option Addr} {c' k : Nat} (hg : (w.alloc o1).grownBy w5 (Value.slice ao os.length co).ownBlock)
    (ho : w5.ownsRow B 3 1 (.slice a' (os.length + 1) c') (os.length + 1) (nums os ++ [.int .i64 (k : Int)])) (hw : Wrote go w5 w6) (hb : Box w6 go [.slice a' (os.length + 1) c']) :
    Env l al cl B gl gs go gf mb w6 (os ++ [k]) a' c' n seen ∧ Fr go mb ao w w6 := by
  have hpl := own_place h.ow
  have hob : ∀ k o s, (Value.slice ao os.length co).ownBlock = some k → ao ≠ some ⟨k, o, s⟩ → ∃ o' s', ao = some ⟨k, o', s'⟩ := fun k o s e _ => by
    cases ao with
    | none => simp [Value.ownBlock] at e
    | some ad =>
      obtain ⟨y, u, v⟩ := ad
      simp [Value.ownBlock] at e
      subst e
      exact ⟨u, v, rfl⟩
  have hob2 : ∀ k, (Value.slice ao os.length co).ownBlock = some k → ∃ o' s', ao = some ⟨k, o', s'⟩ := fun k e => by
    cases ao with
    | none => simp [Value.ownBlock] at e
    | some ad =>
      obtain ⟨y, u, v⟩ := ad
      simp [Value.ownBlock] at e
      subst e
      exact ⟨u, v, rfl⟩
  have hsz : w.heap.size ≤ w5.heap.size := by have := hg.size; simp at this; omega
  have hbk : ∀ k, k < w.heap.size → (∀ o s, ao ≠ some ⟨k, o, s⟩) → w5.heap[k]? = w.heap[k]? := fun k hk hn => by
    rw [hg.block k (by simp; omega) (fun e => by obtain ⟨o', s', e2⟩ := hob2 k e.symm; exact hn o' s' e2)]
    exact ((Below.refl w.heap.size w).alloc (Nat.le_refl _) o1).block k hk
  have hF : Fr go mb ao w w6 := ⟨(hw.below 0 (Nat.zero_le _)).os.trans (hg.os.trans rfl), (hw.below 0 (Nat.zero_le _)).tape.trans (hg.tape.trans rfl), (hw.below 0 (Nat.zero_le _)).output.trans (hg.output.trans rfl), by rw [hw.size]; exact hsz, fun k hk h1 h2 h3 => (hw.keep k h1).trans (hbk k hk h3)⟩
  obtain ⟨e1, e2, e3, e4⟩ := h.stay G hal (fun b o s e => (hpl b o s e).1) hF
  refine ⟨⟨e1, e2, e3, ?_, ?_, ?_, e4, Nat.le_trans h.siz hF.size⟩, hF⟩
  · refine h.mp.block ((hw.keep mb (fun e => G.om e.symm)).trans (hbk mb h.mp.lt (fun o s e => ?_)))
    have := (hpl _ _ _ e).1; have := G.mb'; omega
  · rw [List.length_append]; exact hb
  · rw [List.length_append]
    have h9 : nums (os ++ [k]) = nums os ++ [.int .i64 (k : Int)] := by unfold nums; rw [List.map_append]; rfl
    rw [h9]
    exact own_keep ho (fun j hj _ => hw.keep j (by have := G.ob; omega))
/-- The last call out of the order. -/
theorem Env.pop {k : Nat} (h : Env l al cl B gl gs go gf mb w (os ++ [k]) ao co n seen) (G : Geo E B gl gs go gf mb) (hal : ∀ b o s, al = some ⟨b, o, s⟩ → b < E) (hw : Wrote go w w') (hb : Box w' go [.slice ao os.length co]) :
    Env l al cl B gl gs go gf mb w' os ao co n seen ∧ Fr go mb ao w w' := by
  have hF : Fr go mb ao w w' := ⟨(hw.below 0 (Nat.zero_le _)).os, (hw.below 0 (Nat.zero_le _)).tape, (hw.below 0 (Nat.zero_le _)).output, Nat.le_of_eq hw.size.symm, fun k _ h1 _ _ => hw.keep k h1⟩
  obtain ⟨e1, e2, e3, e4⟩ := h.stay G hal (fun b o s e => (own_place h.ow b o s e).1) hF
  refine ⟨⟨e1, e2, e3, h.mp.block (hw.keep mb (fun e => G.om e.symm)), hb, ?_, e4, by rw [hw.size]; exact h.siz⟩, hF⟩
  have ho := h.ow
  rw [List.length_append] at ho
  have h9 : nums (os ++ [k]) = nums os ++ [.int .i64 (k : Int)] := by unfold nums; rw [List.map_append]; rfl
  rw [h9] at ho
  have ho' : w.ownsRow B 3 1 (.slice ao os.length co) os.length (nums os) := by
    rcases ho.2 with ⟨hv, _⟩ | ⟨g, cap, cur, hv, _⟩
    · simp at hv
    · simp only [Value.slice.injEq] at hv
      obtain ⟨rfl, _, _⟩ := hv
      exact ownsRow_pop (xs := nums os) (last := [.int .i64 (k : Int)]) (by simp [nums]) ho
  exact own_keep ho' (fun j hj _ => hw.keep j (by have := G.ob; omega))
/-- A spot is marked. -/
theorem Env.mark (h : Env l al cl B gl gs go gf mb w os ao co n seen) (G : Geo E B gl gs go gf mb) (hal : ∀ b o s, al = some ⟨b, o, s⟩ → b < E) {seen' : Nat × List UInt8 → Bool} (hm : MapB keySpot 4 w' mb (n + 1) seen') (hg : w.grownBy w' (some mb)) :
    Env l al cl B gl gs go gf mb w' os ao co (n + 1) seen' ∧ Fr go mb ao w w' := by
  have hF : Fr go mb ao w w' := ⟨hg.os, hg.tape, hg.output, hg.size, fun k hk _ h2 _ => hg.block k hk (fun e => h2 (by cases e; rfl))⟩
  obtain ⟨e1, e2, e3, e4⟩ := h.stay G hal (fun b o s e => (own_place h.ow b o s e).1) hF
  refine ⟨⟨e1, e2, e3, hm, h.bo.block (hg.block go (h.bo.lt (by simp)) (fun e => G.om (by cases e; rfl))), own_keep h.ow (fun j hj hlt => hg.block j hlt (fun e => by cases e; have := G.mb'; omega)), e4, Nat.le_trans h.siz hg.size⟩, hF⟩
end
/-- What is marked leads nowhere. -/
def SeenOk (l : List HCall) (seen : Nat × List UInt8 → Bool) : Prop := ∀ d t, d < 65536 → tabOk t = true → seen (d, keyB t) = true → S l d t = none
theorem SeenOk.mark {l : List HCall} {seen : Nat × List UInt8 → Bool} (h : SeenOk l seen) {d : Nat} {t : List Force} (ht : tabOk t = true) (hs : S l d t = none) : SeenOk l (updB seen (d, keyB t)) := fun d' t' hd' ht' hx => by
  unfold updB at hx
  split at hx
  · rename_i e
    simp only [Prod.mk.injEq] at e
    obtain ⟨e1, e2⟩ := e
    rw [e1, keyB_tab ht' ht e2]; exact hs
  · exact h d' t' hd' ht' hx
theorem SeenOk.none (l : List HCall) : SeenOk l (fun _ => false) := fun _ _ _ _ h => by cases h
/-- What a search hands back. -/
def RetFind (l : List HCall) (al : Option Addr) (cl B gl gs go gf mb u : Nat) (os : List Nat) (ao : Option Addr) (n d : Nat) (t : List Force) (w : World) (e : Ending) (w' : World) : Prop :=
  ∃ (a' : Option Addr) (c' n' : Nat) (seen' : Nat × List UInt8 → Bool), e = .returned (.bool (S l d t).isSome) ∧ Env l al cl B gl gs go gf mb w' (os ++ (S l d t).getD []) a' c' n' seen' ∧ SeenOk l seen' ∧ n' ≤ n + roomN u ∧ Fr go mb ao w w' ∧ Near w.heap.size ao a'
/-- out = append(out, k): where its row lies. -/
theorem wpList_push {ops : Array Oper} {rest : List Oper} {op : Oper} {ac : Act} {w : World} {te : TypeId} {Q : Exit → Act → World → Prop} (hgd : op.guard = none) (s x : Operand)
    (ho : op.op = .call { callee := .builtin .append, args := #[s, x], argTypes := #[24, 24] }) (B : Nat) (a : Option Addr) (n c : Nat) (os : List Nat) (hn : os.length = n) (hs : ac.eval s = .slice a n c) (hown : w.ownsRow B 3 1 (.slice a n c) n (nums os))
    (k : Nat) (hx : ac.eval x = .slice (some ⟨w.heap.size, 0, none⟩) 1 1) (hby : n ≤ 1000000) (hB : B ≤ w.heap.size)
    (h : ∀ a' c' w', w'.ownsRow B 3 1 (.slice a' (n + 1) c') (n + 1) (nums os ++ [.int .i64 (k : Int)]) → (w.alloc (.cells #[.int .i64 (k : Int)] te)).grownBy w' (Value.slice a n c).ownBlock → Near w.heap.size a a' → wpList Tryd.prog ops Q rest (ac.put op.dst (.slice a' (n + 1) c')) w') :
    wpList Tryd.prog ops Q (op :: rest) ac (w.alloc (.cells #[.int .i64 (k : Int)] te)) := by
  have el : Elem Tryd.prog 24 3 1 8 := ⟨Tryd.underlying24, by
    obtain ⟨i, hi, h0, h1, h2⟩ := info_parts (show (Tryd.prog.info? 3).map (fun i => (i.zero, i.size, i.bytes)) = some (some (.int .i64 0), 1, 8) by kernel_rfl)
    exact ⟨i, _, hi, h0, h1, h2, rfl⟩, by decide, by decide⟩
  have hcan : Can (w.alloc (.cells #[.int .i64 (k : Int)] te)) B 3 1 a n c (nums os) := ⟨by simp [nums, hn], by have := lt_maxLen (n := n); unfold maxLen; omega, .inr (hown.alloc _)⟩
  have hrow : Row (w.alloc (.cells #[.int .i64 (k : Int)] te)) (some ⟨w.heap.size, 0, none⟩) [.int .i64 (k : Int)] := Row.new _ _ _ _
  obtain ⟨a', c', w', hrun, h2, h3, h4, h5⟩ := run_can el op.type B a n c _ hcan (some ⟨w.heap.size, 0, none⟩) 1 1 [.int .i64 (k : Int)] rfl hrow (by simp [Value.oneCell']) (by omega) (Nat.le_trans hB (by simp))
  have hnear := canNear el op.type B a n c _ hcan (some ⟨w.heap.size, 0, none⟩) 1 1 [.int .i64 (k : Int)] rfl hrow (by simp [Value.oneCell']) (by omega) (by omega) hrun
  refine wpList_plain hgd fun K hK => ?_
  unfold Oper.wp execOp
  simp only [ho, resolve, invoke, builtin, Sem.run_bind, Sem.run_pure, Result.andThen_ok, List.map_toArray, List.map_cons, List.map_nil, hs, hx, hrun]
  exact hK _ _ (h a' c' w' (h5.1 (by decide)) h3 (near_down hnear (by simp)))
end Go.Proofs.YtkboojpkkhiceaaDoor

/- What a table answers, the document's side, whole. (printed by gen_hisrefdo.py) -/
namespace Go.Proofs.YtkboojpkkhiceaaDoor
open Go.ChangeShapes Go.WideShapes Go.ChangeAt Go.RowKit
set_option maxRecDepth 100000

theorem refdo_any (t : List Force) (x : HCmd) (a : Option Addr) (n c : Nat) (w : World) (hn : t.length = n) (hl : n ≤ 1000) (hr : LRow layFce w a t) :
    Calls Tryd.prog 10 #[.slice a n c, x.agg] w (RetFA w (doF t x).1 (doF t x).2) := by
  cases hok : tabOk t with
  | false =>
    rw [do_bad (by rw [hok]; simp)]
    exact refdo_tab t x a n c w hn hl hr hok
  | true =>
    cases has : asksC x with
    | false =>
      rw [do_bad (by rw [has]; simp)]
      exact refdo_asks t x a n c w hn hl hr hok has
    | true => exact refdo_go t x a n c w hn hl hr hok has
end Go.Proofs.YtkboojpkkhiceaaDoor
