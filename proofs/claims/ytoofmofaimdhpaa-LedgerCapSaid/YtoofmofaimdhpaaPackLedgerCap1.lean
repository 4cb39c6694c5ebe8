import Derived.Test.YtoofmofaimdhpaaPackA1
import Derived.Deep.Slices
import Derived.Carry
import Derived.SizedLaws
import Derived.Test.YtoofmofaimdhpaaPackA3
import Derived.Deep.RegionHeld3
import Derived.Test.YtoofmofaimdhpaaLedWakes
import Derived.Test.YtoofmofaimdhpaaPackA5
import Derived.Deep.Cut
import Derived.Deep.CutRange
import Derived.StillTailTactics
import Derived.BigQuiet
set_option linter.unusedVariables false
set_option linter.unusedSimpArgs false
/- How a law's arguments are opened, and the frame that makes a statement out of a walk: for any law of plain data that answers one bool. -/
namespace Go.Proofs.Ytoofmofaimdhpaa
open Go.ChangeShapes Go.WideShapes Go.ChangeAt Go.RowKit Go.Deep
set_option maxRecDepth 100000

/-- The cells read as a datum of the type. -/
def Rd {H : Type} (enc : TypeId × Value → H) (P : Program) (w : World) (t : TypeId) (cs : List Value) : Prop :=
  ∃ fuel x, DataW.trod enc P w 0 (fun _ => true) true fuel t cs = some x ∧ ∀ n ∈ x.1.weights P t, n ≤ reachBytes
/-- The value is one of the type, and reads as a datum. -/
def RdV {H : Type} (enc : TypeId × Value → H) (P : Program) (w : World) (t : TypeId) (v : Value) : Prop :=
  (∃ base, Value.okWide P w .any base t v) ∧ Rd enc P w t v.cells.toList
def RdAll {H : Type} (enc : TypeId × Value → H) (P : Program) (w : World) : List TypeId → List Value → Prop
  | [], vs => vs = []
  | t :: ts, vs => ∃ v vs', vs = v :: vs' ∧ RdV enc P w t v ∧ RdAll enc P w ts vs'

section
variable {H : Type} {enc : TypeId × Value → H} {P : Program} {w : World} {t : TypeId}

theorem weights_sub {P : Program} {e : TypeId} {d : DataW H} {k : Nat} : ∀ {l : List (DataW H)}, d ∈ l → k ∈ d.weights P e → k ∈ DataW.weightsAll P e l
  | a :: l, hd, hk => by
    rw [DataW.weightsAll, List.mem_append]
    rcases List.mem_cons.1 hd with rfl | h
    · exact .inl hk
    · exact .inr (weights_sub h hk)
theorem weights_sub_each {P : Program} {k : Nat} {t : TypeId} {d : DataW H} : ∀ {ts : List TypeId} {l : List (DataW H)} {i : Nat}, ts[i]? = some t → l[i]? = some d → k ∈ d.weights P t → k ∈ DataW.weightsEach P ts l
  | t :: ts, a :: l, 0, ht, hd, hk => by
    simp at ht hd
    subst ht; subst hd
    rw [DataW.weightsEach, List.mem_append]
    exact .inl hk
  | _ :: ts, _ :: l, i + 1, ht, hd, hk => by
    rw [DataW.weightsEach, List.mem_append]
    exact .inr (weights_sub_each (i := i) (by simpa using ht) (by simpa using hd) hk)
  | [], _, _, ht, _, _ => by simp at ht
  | _ :: _, [], _, _, hd, _ => by simp at hd
theorem Rd.int {k : IntKind} {cs : List Value} (ht : P.underlying t = some (.int k)) (h : Rd enc P w t cs) : ∃ n, cs = [.int k n] ∧ (Lit.int k n).wf = true := by
  obtain ⟨f, x, h, _⟩ := h
  obtain ⟨n, h1, _, h2⟩ := DataW.trod_int ht h
  exact ⟨n, h1, h2⟩
theorem Rd.bool {cs : List Value} (ht : P.underlying t = some .bool) (h : Rd enc P w t cs) : ∃ b, cs = [.bool b] := by
  obtain ⟨f, x, h, _⟩ := h
  obtain ⟨b, h1, _⟩ := DataW.trod_bool ht h
  exact ⟨b, h1⟩
theorem Rd.slice {e : TypeId} {cs : List Value} (ht : P.underlying t = some (.slice e)) (h : Rd enc P w t cs) :
    cs = [.slice none 0 0] ∨ ∃ a len cap, cs = [.slice (some a) len cap] ∧ len ≤ cap ∧ cap ≤ maxLen ∧ cap * P.bytesOf e ≤ reachBytes ∧
      ∀ i, i < cap → ∃ c, w.cells? 0 (a.add (i * P.cellsOf e)) (P.cellsOf e) = some c ∧ Rd enc P w e c := by
  obtain ⟨f, x, h, hw⟩ := h
  rcases open_slice ht h with ⟨h1, _⟩ | ⟨a, len, cap, m, n, D, Pl, h1, _, hl, hc, hm, rfl, hel⟩
  · exact .inl h1
  · simp only [if_true] at hm
    obtain rfl := hm
    simp only [DataW.weights, ht, List.length_map, List.length_range, List.mem_cons, List.mem_append] at hw
    refine .inr ⟨a, len, m, h1, hl, hc, ?_, fun i hi => ?_⟩
    · have := hw _ (.inl rfl)
      rw [Nat.add_sub_cancel' hl] at this
      exact this
    · obtain ⟨c, hc, hx⟩ := hel i hi
      refine ⟨c, hc, n, _, hx, fun k hk => hw k (.inr ?_)⟩
      by_cases h : i < len
      · exact .inl (weights_sub (List.mem_map.2 ⟨i, by simpa using h, rfl⟩) hk)
      · exact .inr (weights_sub (List.mem_map.2 ⟨i - len, by simp; omega, by rw [Nat.add_sub_cancel' (by omega)]⟩) hk)
theorem Rd.struct {fs : Array Field} {cs : List Value} (ht : P.underlying t = some (.struct fs)) (h : Rd enc P w t cs) :
    cs.length = P.cellsOf t ∧ ∀ (i : Nat) (f : Field), fs[i]? = some f → Rd enc P w f.type ((cs.drop f.offset).take (P.cellsOf f.type)) := by
  obtain ⟨f, x, h, hw⟩ := h
  obtain ⟨xs, n, _, rfl, hl, hx, hel⟩ := DataW.trod_struct ht h
  simp only [DataW.weights, ht] at hw
  refine ⟨hl, fun i f hf => ?_⟩
  have := hel i f hf
  have hi : i < xs.length := by
    rw [hx]
    exact (Array.getElem?_eq_some_iff.1 hf).1
  exact ⟨n, xs[i], by rw [this, List.getElem?_eq_getElem hi], fun k hk => hw k (weights_sub_each (i := i) (by simpa using ⟨f, hf, rfl⟩) (by simp [List.getElem?_eq_getElem hi]) hk)⟩
theorem RdV.int {k : IntKind} {v : Value} (ht : P.underlying t = some (.int k)) (h : RdV enc P w t v) : ∃ n, v = .int k n ∧ (Lit.int k n).wf = true := by
  obtain ⟨⟨_, ho⟩, h⟩ := h
  obtain ⟨n, rfl⟩ := okWide_int ht ho
  obtain ⟨m, h1, h2⟩ := h.int ht
  simp [Value.cells] at h1
  subst h1
  exact ⟨_, rfl, h2⟩
theorem RdV.bool {v : Value} (ht : P.underlying t = some .bool) (h : RdV enc P w t v) : ∃ b, v = .bool b := by
  obtain ⟨⟨_, ho⟩, h⟩ := h
  exact okWide_bool ht ho
theorem RdV.slice {e : TypeId} {v : Value} (ht : P.underlying t = some (.slice e)) (h : RdV enc P w t v) : ∃ a len cap, v = .slice a len cap ∧ Rd enc P w t [.slice a len cap] := by
  obtain ⟨⟨_, ho⟩, h⟩ := h
  obtain ⟨a, len, cap, rfl⟩ := okWide_slice ht ho
  exact ⟨a, len, cap, rfl, h⟩
theorem RdV.struct {fs : Array Field} {v : Value} (ht : P.underlying t = some (.struct fs)) (h : RdV enc P w t v) : ∃ cs : List Value, v = .agg cs.toArray ∧ Rd enc P w t cs := by
  obtain ⟨⟨_, ho⟩, h⟩ := h
  obtain ⟨cs, rfl, _⟩ := okWide_struct ht ho
  exact ⟨cs.toList, by simp, h⟩

/-- A slice opened, its elements as whatever they are told to be. -/
theorem Rd.rows {α : Type} {e : TypeId} {a : Option Addr} {len cap size : Nat} {cells : α → List Value} {good : α → Prop} (hs : ∀ x, (cells x).length = size) (hpos : 0 < size) (ht : P.underlying t = some (.slice e)) (hc : P.cellsOf e = size)
    (each : ∀ cs, Rd enc P w e cs → ∃ x, cs = cells x ∧ good x) (h : Rd enc P w t [.slice a len cap]) :
    ∃ xs : List α, xs.length = len ∧ len ≤ cap ∧ cap ≤ maxLen ∧ cap * P.bytesOf e ≤ reachBytes ∧ (a = none → cap = 0) ∧ (∀ x ∈ xs, good x) ∧ Row w a (xs.flatMap cells) := by
  rcases h.slice ht with h1 | ⟨x, l, c, h1, hl, hm, hby, hel⟩
  · simp at h1
    obtain ⟨rfl, rfl, rfl⟩ := h1
    exact ⟨[], rfl, Nat.le_refl _, Nat.zero_le _, by simp, fun _ => rfl, by simp, .inl rfl⟩
  · simp at h1
    obtain ⟨rfl, rfl, rfl⟩ := h1
    rw [hc] at hel
    have hv : ∀ i, i < len → ∃ y : α, good y ∧ w.cells? 0 (x.add (i * size)) size = some (cells y) := by
      intro i hi
      obtain ⟨cs, hcs, hr⟩ := hel i (by omega)
      obtain ⟨y, rfl, hy⟩ := each _ hr
      exact ⟨y, hy, hcs⟩
    by_cases h0 : len = 0
    · subst h0
      exact ⟨[], rfl, Nat.zero_le _, hm, hby, fun e => by simp at e, by simp, .inl rfl⟩
    · obtain ⟨y0, _⟩ := hv 0 (by omega)
      have : Inhabited α := ⟨y0⟩
      obtain ⟨g, hg⟩ := choose_lt (p := fun i y => good y ∧ w.cells? 0 (x.add (i * size)) size = some (cells y)) hv
      have hcell : ∀ i r, i < len → r < size → w.cell? ((x.add (i * size)).add r) = (cells (g i))[r]? := by
        intro i r hi hr
        obtain ⟨_, _, hall⟩ := World.cells?_some (hg i hi).2
        exact hall r hr
      have hspot : x.spot = none := by
        have h1 := hcell 0 0 (by omega) hpos
        obtain ⟨v, hv⟩ : ∃ v, (cells (g 0))[0]? = some v := by
          cases hh : (cells (g 0))[0]? with
          | some v => exact ⟨v, rfl⟩
          | none => rw [List.getElem?_eq_none_iff, hs] at hh; omega
        have := World.cell?_spot (h1.trans hv)
        simpa [Addr.add] using this
      obtain ⟨b, o, spot⟩ := x
      simp only at hspot
      subst hspot
      refine ⟨(List.range len).map g, by simp, hl, hm, hby, fun e => by simp at e, ?_, .inr ⟨b, o, rfl, fun j hj => ?_⟩⟩
      · intro y hy
        obtain ⟨i, hi, rfl⟩ := List.mem_map.1 hy
        exact (hg i (by simpa using hi)).1
      · have hlen := flatMap_len hs ((List.range len).map g)
        rw [List.length_map, List.length_range] at hlen
        have hj2 : j < len * size := by rw [← hlen]; exact hj
        have hi : j / size < len := Nat.div_lt_of_lt_mul (by rw [Nat.mul_comm]; exact hj2)
        have hr : j % size < size := Nat.mod_lt _ hpos
        have hjj : j / size * size + j % size = j := by rw [Nat.mul_comm]; exact Nat.div_add_mod j size
        have h1 := flatMap_at hs (xs := (List.range len).map g) (i := j / size) hr
        rw [hjj] at h1
        have h2 := hcell (j / size) (j % size) hi hr
        have h3 : ((⟨b, o, none⟩ : Addr).add (j / size * size)).add (j % size) = ⟨b, o + j, none⟩ := by
          rw [add_add, hjj]
          unfold Addr.add
          by_cases hz : j = 0
          · subst hz; simp
          · simp [hz]
        rw [h3] at h2
        rw [h2, ← List.getElem?_eq_getElem hj, h1, List.getElem?_map, List.getElem?_range hi]
        rfl

/-- A slice of one-cell numbers, opened. -/
theorem Rd.ints {e : TypeId} {k : IntKind} {a : Option Addr} {len cap : Nat} (ht : P.underlying t = some (.slice e)) (he : P.underlying e = some (.int k)) (hc : P.cellsOf e = 1) (h : Rd enc P w t [.slice a len cap]) :
    ∃ zs : List Int, zs.length = len ∧ len ≤ cap ∧ cap ≤ maxLen ∧ cap * P.bytesOf e ≤ reachBytes ∧ (∀ n ∈ zs, (Lit.int k n).wf = true) ∧ (a = none → cap = 0) ∧ Row w a (zs.map (Value.int k)) := by
  rcases h.slice ht with h1 | ⟨x, l, c, h1, hl, hm, hby, hel⟩
  · simp at h1
    obtain ⟨rfl, rfl, rfl⟩ := h1
    exact ⟨[], rfl, Nat.le_refl _, Nat.zero_le _, by simp, by simp, fun _ => rfl, .inl rfl⟩
  · simp at h1
    obtain ⟨rfl, rfl, rfl⟩ := h1
    rw [hc] at hel
    have hv : ∀ i, i < len → ∃ n, (Lit.int k n).wf = true ∧ w.cell? (x.add i) = some (.int k n) := by
      intro i hi
      obtain ⟨cs, hcs, hr⟩ := hel i (by omega)
      obtain ⟨n, rfl, hw⟩ := hr.int he
      refine ⟨n, hw, ?_⟩
      rw [Nat.mul_one] at hcs
      simp only [World.cells?, Nat.zero_le, if_true, List.range_succ, List.range_zero, List.nil_append] at hcs
      have he : (x.add i).add 0 = x.add i := by simp [Addr.add]
      simp only [List.mapM_cons, List.mapM_nil, he] at hcs
      revert hcs
      cases w.cell? (x.add i) with
      | none => intro h; cases h
      | some v => intro h; simpa using h
    obtain ⟨g, hg⟩ := choose_lt (p := fun i n => (Lit.int k n).wf = true ∧ w.cell? (x.add i) = some (.int k n)) hv
    refine ⟨(List.range len).map g, by simp, hl, hm, hby, ?_, fun e => by simp at e, ?_⟩
    · intro n hn
      obtain ⟨i, hi, rfl⟩ := List.mem_map.1 hn
      exact (hg i (by simpa using hi)).1
    · by_cases h0 : len = 0
      · subst h0; exact .inl rfl
      · have hs := World.cell?_spot (hg 0 (by omega)).2
        have hspot : x.spot = none := by simpa [Addr.add] using hs
        obtain ⟨b, o, spot⟩ := x
        simp only at hspot
        subst hspot
        refine .inr ⟨b, o, rfl, fun i hi => ?_⟩
        simp only [List.length_map, List.length_range] at hi
        have := (hg i hi).2
        by_cases hi0 : i = 0
        · subst hi0; simpa [Addr.add] using this
        · simpa [Addr.add, hi0] using this
/-- A slice of bytes, opened. -/
theorem Rd.bytes {e : TypeId} {a : Option Addr} {len cap : Nat} (ht : P.underlying t = some (.slice e)) (he : P.underlying e = some (.int .u8)) (hc : P.cellsOf e = 1) (h : Rd enc P w t [.slice a len cap]) :
    ∃ l : List UInt8, l.length = len ∧ len ≤ cap ∧ cap ≤ maxLen ∧ cap * P.bytesOf e ≤ reachBytes ∧ (a = none → cap = 0) ∧ RowB w a l := by
  obtain ⟨zs, h1, h2, h3, hby, h4, h5, h6⟩ := h.ints ht he hc
  refine ⟨zs.map fun z => UInt8.ofNat z.toNat, by simpa using h1, h2, h3, hby, h5, ?_⟩
  have : (zs.map fun z => UInt8.ofNat z.toNat).map B = zs.map (Value.int .u8) := by
    rw [List.map_map]
    refine List.map_congr_left fun z hz => ?_
    obtain ⟨b0, b1⟩ := bounds_u8 (h4 z hz)
    simp only [Function.comp, B]
    congr 1
    rw [UInt8.toNat_ofNat']
    omega
  unfold RowB
  rw [this]
  exact h6
end

theorem RdAll.of {H : Type} {enc : TypeId × Value → H} {P : Program} {w : World} {base : Nat} : ∀ {ts : List TypeId} {vs : List Value} {ds : List (DataW H)} {p : List MemPlace}, DataW.TrodAll enc P w 0 (fun _ => true) true ts vs ds p →
    (∀ (j : Nat) t v, ts[j]? = some t → vs[j]? = some v → Value.okWide P w .any base t v) → (∀ n ∈ DataW.weightsEach P ts ds, n ≤ reachBytes) → RdAll enc P w ts vs
  | [], [], [], _, _, _, _ => rfl
  | t :: _, v :: vs, _ :: _, _, ⟨_, _, ⟨fuel, hx⟩, h, _⟩, hok, hw =>
    ⟨v, vs, rfl, ⟨⟨base, hok 0 t v rfl rfl⟩, fuel, _, hx, fun n hn => hw n (by rw [DataW.weightsEach, List.mem_append]; exact .inl hn)⟩,
      RdAll.of h (fun j t v ht hv => hok (j + 1) t v ht hv) (fun n hn => hw n (by rw [DataW.weightsEach, List.mem_append]; exact .inr hn))⟩

theorem trodAll_stays {H : Type} {enc : TypeId × Value → H} {P : Program} {W W' : World} (hl : laidOutB P = true) (hb : Below W.heap.size W W') : ∀ {ts : List TypeId} {vs : List Value} {ds : List (DataW H)} {p : List MemPlace},
    (∀ t ∈ ts, P.readableRec t = true ∧ t < P.types.size) → DataW.TrodAll enc P W 0 (fun _ => true) true ts vs ds p → DataW.TrodAll enc P W' 0 (fun b => decide (b < W.heap.size)) true ts vs ds p
  | [], [], [], _, _, h => h
  | t :: ts, v :: vs, d :: ds, _, hall, ⟨p, q, hx, h, rfl⟩ =>
    ⟨_, _, Below.trod hl (hall t (by simp)).1 (hall t (by simp)).2 hx hb (by obtain ⟨m, hm⟩ := hx; exact DataW.trod_lt m _ _ _ hm), trodAll_stays hl hb (fun t ht => hall t (by simp [ht])) h, rfl⟩

theorem trodAll_length {H : Type} {enc : TypeId × Value → H} {P : Program} {W : World} {b : Nat} {sp : Nat → Bool} {hd : Bool} : ∀ {ts : List TypeId} {vs : List Value} {ds : List (DataW H)} {p : List MemPlace},
    DataW.TrodAll enc P W b sp hd ts vs ds p → ds.length = ts.length
  | [], [], [], _, _ => rfl
  | _ :: _, _ :: _, _ :: _, _, ⟨_, _, _, h, _⟩ => congrArg (· + 1) (trodAll_length h)

/-- THE FRAME: from the walk to the lifted row. -/
theorem law_lifted {H : Type} {enc : TypeId × Value → H} {C : Checked} {os : Os} {f : FuncId} {fn : Func} {s : ChangeSpec} {boolT : TypeId}
    (own : ownKnob C.prog.godebug = none) (started : os.Started) (noInit : C.prog.inits.idxOf? f = none) (hfn : C.prog.funcs[f]? = some fn)
    (witness : ∃ (w : World) (tape : Tape) (i : Input), w.os = os ∧ (w.forCall tape i).Shaped C.prog ∧ i.vars = [] ∧ Input.okWide C.prog (w.forCall tape i) .any w.heap.size f i ∧
      s.pre6 enc C.prog fn [] false (w.forCall tape i).memory i.args ∧ ({} : Assume).holds C.prog (lone (Frame.enter C.prog f i.args .normal) [] (w.forCall tape i)))
    (hvars : s.vars = []) (hres : fn.resultTypes = #[boolT]) (hbool : C.prog.underlying boolT = some .bool) (hlaid : laidOutB C.prog = true)
    (hpar0 : (fn.params.toList.all fun t => C.prog.readableRec t && decide (t < C.prog.types.size)) = true)
    (hspec : ∀ ds : List (DataW H), ds.length = fn.params.toList.length → s.fn H ds = { results := [.lit (.bool true)], args := ds })
    (walk : ∀ (W : World) (vs : List Value), RdAll enc C.prog W fn.params.toList vs → Calls C.prog f vs.toArray W fun e W' => e = .returned (.bool true) ∧ Below W.heap.size W W') :
    ReturnsInHanded {} C os f .any (s.pre6 enc C.prog fn [] false) (s.post enc C.prog fn false true false false) := by
  have hpar : ∀ t ∈ fn.params.toList, C.prog.readableRec t = true ∧ t < C.prog.types.size := fun t ht => by
    have := List.all_eq_true.1 hpar0 t ht
    simpa using this
  refine returnsInHanded_of_change_sized own started noInit hfn witness ?_
  intro W base args ds gs before hval hW hcnd hsz _
  have hW' := hW
  obtain ⟨p, q, hA, hV, rfl, hfz, hnd⟩ := hW
  rw [hvars] at hV
  obtain ⟨rfl, rfl⟩ : gs = [] ∧ q = [] := by
    cases gs with
    | nil => exact ⟨rfl, hV⟩
    | cons g gs => exact hV.elim
  have hr := RdAll.of (base := base) hA (fun j t v ht hv => hval j t v (by simpa using ht) (by simpa using hv)) (fun n hn => by
    have hv0 : s.plain.varTypes C.prog = [] := by unfold DataSpec.varTypes ChangeSpec.plain; simp [hvars]
    rw [hv0, List.append_nil, List.append_nil] at hsz
    simpa using List.all_eq_true.1 hsz n hn)
  have hw := walk W args.toList hr
  rw [Array.toArray_toList] at hw
  refine hw.mono fun e W' ⟨he, hb⟩ => ?_
  have hs := hspec ds (trodAll_length hA)
  refine ⟨_, he, ds, [], _, [], p, [], hW', ?_, ?_, ?_, hb.frame _, fun h => by cases h⟩
  · rw [List.append_nil, hs, hres]
    exact trodAll_mk1 (shut_bool hbool _)
  · rw [List.append_nil, hs]
    exact trodAll_stays hlaid hb hpar hA
  · rw [List.append_nil, hs, hvars]; rfl

theorem own : ownKnob Try.prog.godebug = none := by kernel_rfl
theorem laidOut : laidOutB Try.prog = true := by kernel_rfl
end Go.Proofs.Ytoofmofaimdhpaa

namespace Go.Proofs.Ytoofmofaimdhpaa
open Go.ChangeShapes Go.WideShapes Go.ChangeAt Go.RowKit
set_option maxRecDepth 100000

theorem open_tenant {H : Type} {enc : TypeId × Value → H} {w : World} {cs : List Value} (h : Rd enc Try.prog w 55 cs) : ∃ x : Tenant, cs = x.cells := by
  obtain ⟨hl, hf⟩ := h.struct Try.underlying55
  have h5 : Try.prog.cellsOf 55 = 5 := by kernel_rfl
  have c3 : Try.prog.cellsOf 3 = 1 := by kernel_rfl
  have c4 : Try.prog.cellsOf 4 = 1 := by kernel_rfl
  rw [h5] at hl
  match cs, hl with
  | [v0, v1, v2, v3, v4], _ =>
    have f0 : Rd enc Try.prog w 3 ((([v0, v1, v2, v3, v4] : List Value).drop 0).take (Try.prog.cellsOf 3)) := hf 0 _ rfl
    rw [c3] at f0
    replace f0 : Rd enc Try.prog w 3 [v0] := f0
    have f1 : Rd enc Try.prog w 3 ((([v0, v1, v2, v3, v4] : List Value).drop 1).take (Try.prog.cellsOf 3)) := hf 1 _ rfl
    rw [c3] at f1
    replace f1 : Rd enc Try.prog w 3 [v1] := f1
    have f2 : Rd enc Try.prog w 3 ((([v0, v1, v2, v3, v4] : List Value).drop 2).take (Try.prog.cellsOf 3)) := hf 2 _ rfl
    rw [c3] at f2
    replace f2 : Rd enc Try.prog w 3 [v2] := f2
    have f3 : Rd enc Try.prog w 3 ((([v0, v1, v2, v3, v4] : List Value).drop 3).take (Try.prog.cellsOf 3)) := hf 3 _ rfl
    rw [c3] at f3
    replace f3 : Rd enc Try.prog w 3 [v3] := f3
    have f4 : Rd enc Try.prog w 4 ((([v0, v1, v2, v3, v4] : List Value).drop 4).take (Try.prog.cellsOf 4)) := hf 4 _ rfl
    rw [c4] at f4
    replace f4 : Rd enc Try.prog w 4 [v4] := f4
    obtain ⟨n0, e0, -⟩ := f0.int Try.underlying3
    obtain ⟨n1, e1, -⟩ := f1.int Try.underlying3
    obtain ⟨n2, e2, -⟩ := f2.int Try.underlying3
    obtain ⟨n3, e3, -⟩ := f3.int Try.underlying3
    obtain ⟨b4, e4⟩ := f4.bool Try.underlying4
    simp only [List.cons.injEq, and_true] at e0 e1 e2 e3 e4
    subst e0 e1 e2 e3 e4
    exact ⟨⟨n0, n1, n2, n3, b4⟩, rfl⟩
theorem open_tenants {H : Type} {enc : TypeId × Value → H} {w : World} {a : Option Addr} {len cap : Nat} (h : Rd enc Try.prog w 22 [.slice a len cap]) :
    ∃ ts : List Tenant, ts.length = len ∧ len ≤ cap ∧ (a = none → cap = 0) ∧ TRow w a ts := by
  obtain ⟨xs, h1, h2, h3, _, h5, _, hr⟩ := Rd.rows (α := Tenant) (cells := Tenant.cells) (size := 5) (good := fun _ => True) (fun _ => rfl) (by decide) Try.underlying22 (by kernel_rfl) (fun cs hcs => by obtain ⟨x, hx⟩ := open_tenant hcs; exact ⟨x, hx, trivial⟩) h
  exact ⟨xs, h1, h2, h5, hr⟩
end Go.Proofs.Ytoofmofaimdhpaa

namespace Go.Proofs.Ytoofmofaimdhpaa
open Go.ChangeShapes Go.WideShapes Go.ChangeAt Go.RowKit
set_option maxRecDepth 100000

theorem open_lea {H : Type} {enc : TypeId × Value → H} {w : World} {cs : List Value} (h : Rd enc Try.prog w 38 cs) : ∃ x : Lease, cs = x.cells := by
  obtain ⟨hl, hf⟩ := h.struct Try.underlying38
  have hn : Try.prog.cellsOf 38 = 7 := by kernel_rfl
  have z_int : Try.prog.cellsOf 3 = 1 := by kernel_rfl
  rw [hn] at hl
  match cs, hl with
  | [v0, v1, v2, v3, v4, v5, v6], _ =>
    have f0 : Rd enc Try.prog w 3 ((([v0, v1, v2, v3, v4, v5, v6] : List Value).drop 0).take (Try.prog.cellsOf 3)) := hf 0 _ rfl
    rw [z_int] at f0
    replace f0 : Rd enc Try.prog w 3 [v0] := f0
    obtain ⟨x0, e0, -⟩ := f0.int Try.underlying3
    have f1 : Rd enc Try.prog w 3 ((([v0, v1, v2, v3, v4, v5, v6] : List Value).drop 1).take (Try.prog.cellsOf 3)) := hf 1 _ rfl
    rw [z_int] at f1
    replace f1 : Rd enc Try.prog w 3 [v1] := f1
    obtain ⟨x1, e1, -⟩ := f1.int Try.underlying3
    have f2 : Rd enc Try.prog w 3 ((([v0, v1, v2, v3, v4, v5, v6] : List Value).drop 2).take (Try.prog.cellsOf 3)) := hf 2 _ rfl
    rw [z_int] at f2
    replace f2 : Rd enc Try.prog w 3 [v2] := f2
    obtain ⟨x2, e2, -⟩ := f2.int Try.underlying3
    have f3 : Rd enc Try.prog w 3 ((([v0, v1, v2, v3, v4, v5, v6] : List Value).drop 3).take (Try.prog.cellsOf 3)) := hf 3 _ rfl
    rw [z_int] at f3
    replace f3 : Rd enc Try.prog w 3 [v3] := f3
    obtain ⟨x3, e3, -⟩ := f3.int Try.underlying3
    have f4 : Rd enc Try.prog w 3 ((([v0, v1, v2, v3, v4, v5, v6] : List Value).drop 4).take (Try.prog.cellsOf 3)) := hf 4 _ rfl
    rw [z_int] at f4
    replace f4 : Rd enc Try.prog w 3 [v4] := f4
    obtain ⟨x4, e4, -⟩ := f4.int Try.underlying3
    have f5 : Rd enc Try.prog w 3 ((([v0, v1, v2, v3, v4, v5, v6] : List Value).drop 5).take (Try.prog.cellsOf 3)) := hf 5 _ rfl
    rw [z_int] at f5
    replace f5 : Rd enc Try.prog w 3 [v5] := f5
    obtain ⟨x5, e5, -⟩ := f5.int Try.underlying3
    have f6 : Rd enc Try.prog w 3 ((([v0, v1, v2, v3, v4, v5, v6] : List Value).drop 6).take (Try.prog.cellsOf 3)) := hf 6 _ rfl
    rw [z_int] at f6
    replace f6 : Rd enc Try.prog w 3 [v6] := f6
    obtain ⟨x6, e6, -⟩ := f6.int Try.underlying3
    simp only [List.cons.injEq, and_true] at e0 e1 e2 e3 e4 e5 e6
    subst e0
    subst e1
    subst e2
    subst e3
    subst e4
    subst e5
    subst e6
    exact ⟨⟨x0, x1, x2, x3, x4, x5, x6⟩, rfl⟩
theorem open_leas {H : Type} {enc : TypeId × Value → H} {w : World} {a : Option Addr} {len cap : Nat} (h : Rd enc Try.prog w 23 [.slice a len cap]) :
    ∃ ts : List Lease, ts.length = len ∧ len ≤ cap ∧ cap ≤ maxLen ∧ (a = none → cap = 0) ∧ LRow layLea w a ts := by
  obtain ⟨xs, h1, h2, h3, _, h5, _, hr⟩ := Rd.rows (α := Lease) (cells := Lease.cells) (size := 7) (good := fun _ => True) (fun _ => rfl) (by decide) Try.underlying23 (by kernel_rfl) (fun cs hcs => by obtain ⟨x, hx⟩ := open_lea hcs; exact ⟨x, hx, trivial⟩) h
  exact ⟨xs, h1, h2, h3, h5, hr⟩
end Go.Proofs.Ytoofmofaimdhpaa

namespace Go.Proofs.Ytoofmofaimdhpaa
open Go.ChangeShapes Go.WideShapes Go.ChangeAt Go.RowKit
set_option maxRecDepth 100000

theorem open_ans {H : Type} {enc : TypeId × Value → H} {w : World} {cs : List Value} (h : Rd enc Try.prog w 32 cs) : ∃ x : Ans, cs = x.cells := by
  obtain ⟨hl, hf⟩ := h.struct Try.underlying32
  have hn : Try.prog.cellsOf 32 = 5 := by kernel_rfl
  have z_int : Try.prog.cellsOf 3 = 1 := by kernel_rfl
  have z_Errno : Try.prog.cellsOf 30 = 1 := by kernel_rfl
  rw [hn] at hl
  match cs, hl with
  | [v0, v1, v2, v3, v4], _ =>
    have f0 : Rd enc Try.prog w 30 ((([v0, v1, v2, v3, v4] : List Value).drop 0).take (Try.prog.cellsOf 30)) := hf 0 _ rfl
    rw [z_Errno] at f0
    replace f0 : Rd enc Try.prog w 30 [v0] := f0
    obtain ⟨x0, e0, -⟩ := f0.int Try.underlying30
    have f1 : Rd enc Try.prog w 3 ((([v0, v1, v2, v3, v4] : List Value).drop 1).take (Try.prog.cellsOf 3)) := hf 1 _ rfl
    rw [z_int] at f1
    replace f1 : Rd enc Try.prog w 3 [v1] := f1
    obtain ⟨x1, e1, -⟩ := f1.int Try.underlying3
    have f2 : Rd enc Try.prog w 3 ((([v0, v1, v2, v3, v4] : List Value).drop 2).take (Try.prog.cellsOf 3)) := hf 2 _ rfl
    rw [z_int] at f2
    replace f2 : Rd enc Try.prog w 3 [v2] := f2
    obtain ⟨x2, e2, -⟩ := f2.int Try.underlying3
    have f3 : Rd enc Try.prog w 3 ((([v0, v1, v2, v3, v4] : List Value).drop 3).take (Try.prog.cellsOf 3)) := hf 3 _ rfl
    rw [z_int] at f3
    replace f3 : Rd enc Try.prog w 3 [v3] := f3
    obtain ⟨x3, e3, -⟩ := f3.int Try.underlying3
    have f4 : Rd enc Try.prog w 3 ((([v0, v1, v2, v3, v4] : List Value).drop 4).take (Try.prog.cellsOf 3)) := hf 4 _ rfl
    rw [z_int] at f4
    replace f4 : Rd enc Try.prog w 3 [v4] := f4
    obtain ⟨x4, e4, -⟩ := f4.int Try.underlying3
    simp only [List.cons.injEq, and_true] at e0 e1 e2 e3 e4
    subst e0
    subst e1
    subst e2
    subst e3
    subst e4
    exact ⟨⟨x0, x1, x2, x3, x4⟩, rfl⟩
theorem open_ses {H : Type} {enc : TypeId × Value → H} {w : World} {cs : List Value} (h : Rd enc Try.prog w 70 cs) : ∃ x : Session, cs = x.cells := by
  obtain ⟨hl, hf⟩ := h.struct Try.underlying70
  have hn : Try.prog.cellsOf 70 = 7 := by kernel_rfl
  have z_int : Try.prog.cellsOf 3 = 1 := by kernel_rfl
  have z_Answer : Try.prog.cellsOf 32 = 5 := by kernel_rfl
  rw [hn] at hl
  match cs, hl with
  | [v0, v1, v2, v3, v4, v5, v6], _ =>
    have f0 : Rd enc Try.prog w 3 ((([v0, v1, v2, v3, v4, v5, v6] : List Value).drop 0).take (Try.prog.cellsOf 3)) := hf 0 _ rfl
    rw [z_int] at f0
    replace f0 : Rd enc Try.prog w 3 [v0] := f0
    obtain ⟨x0, e0, -⟩ := f0.int Try.underlying3
    have f1 : Rd enc Try.prog w 3 ((([v0, v1, v2, v3, v4, v5, v6] : List Value).drop 1).take (Try.prog.cellsOf 3)) := hf 1 _ rfl
    rw [z_int] at f1
    replace f1 : Rd enc Try.prog w 3 [v1] := f1
    obtain ⟨x1, e1, -⟩ := f1.int Try.underlying3
    have f2 : Rd enc Try.prog w 32 ((([v0, v1, v2, v3, v4, v5, v6] : List Value).drop 2).take (Try.prog.cellsOf 32)) := hf 2 _ rfl
    rw [z_Answer] at f2
    replace f2 : Rd enc Try.prog w 32 [v2, v3, v4, v5, v6] := f2
    obtain ⟨x2, e2⟩ := open_ans f2
    simp only [List.cons.injEq, and_true] at e0 e1 e2
    subst e0
    subst e1
    obtain ⟨rfl, rfl, rfl, rfl, rfl⟩ := e2
    exact ⟨⟨x0, x1, x2⟩, rfl⟩
theorem open_sess {H : Type} {enc : TypeId × Value → H} {w : World} {a : Option Addr} {len cap : Nat} (h : Rd enc Try.prog w 24 [.slice a len cap]) :
    ∃ ts : List Session, ts.length = len ∧ len ≤ cap ∧ cap ≤ maxLen ∧ (a = none → cap = 0) ∧ LRow laySes w a ts := by
  obtain ⟨xs, h1, h2, h3, _, h5, _, hr⟩ := Rd.rows (α := Session) (cells := Session.cells) (size := 7) (good := fun _ => True) (fun _ => rfl) (by decide) Try.underlying24 (by kernel_rfl) (fun cs hcs => by obtain ⟨x, hx⟩ := open_ses hcs; exact ⟨x, hx, trivial⟩) h
  exact ⟨xs, h1, h2, h3, h5, hr⟩
end Go.Proofs.Ytoofmofaimdhpaa

namespace Go.Proofs.Ytoofmofaimdhpaa
open Go.ChangeShapes Go.WideShapes Go.ChangeAt Go.RowKit
set_option maxRecDepth 100000

theorem open_dsk {H : Type} {enc : TypeId × Value → H} {w : World} {cs : List Value} (h : Rd enc Try.prog w 72 cs) : ∃ x : Desk, cs = x.cells := by
  obtain ⟨hl, hf⟩ := h.struct Try.underlying72
  have hn : Try.prog.cellsOf 72 = 8 := by kernel_rfl
  have z_int : Try.prog.cellsOf 3 = 1 := by kernel_rfl
  have z_Answer : Try.prog.cellsOf 32 = 5 := by kernel_rfl
  rw [hn] at hl
  match cs, hl with
  | [v0, v1, v2, v3, v4, v5, v6, v7], _ =>
    have f0 : Rd enc Try.prog w 3 ((([v0, v1, v2, v3, v4, v5, v6, v7] : List Value).drop 0).take (Try.prog.cellsOf 3)) := hf 0 _ rfl
    rw [z_int] at f0
    replace f0 : Rd enc Try.prog w 3 [v0] := f0
    obtain ⟨x0, e0, -⟩ := f0.int Try.underlying3
    have f1 : Rd enc Try.prog w 3 ((([v0, v1, v2, v3, v4, v5, v6, v7] : List Value).drop 1).take (Try.prog.cellsOf 3)) := hf 1 _ rfl
    rw [z_int] at f1
    replace f1 : Rd enc Try.prog w 3 [v1] := f1
    obtain ⟨x1, e1, -⟩ := f1.int Try.underlying3
    have f2 : Rd enc Try.prog w 3 ((([v0, v1, v2, v3, v4, v5, v6, v7] : List Value).drop 2).take (Try.prog.cellsOf 3)) := hf 2 _ rfl
    rw [z_int] at f2
    replace f2 : Rd enc Try.prog w 3 [v2] := f2
    obtain ⟨x2, e2, -⟩ := f2.int Try.underlying3
    have f3 : Rd enc Try.prog w 32 ((([v0, v1, v2, v3, v4, v5, v6, v7] : List Value).drop 3).take (Try.prog.cellsOf 32)) := hf 3 _ rfl
    rw [z_Answer] at f3
    replace f3 : Rd enc Try.prog w 32 [v3, v4, v5, v6, v7] := f3
    obtain ⟨x3, e3⟩ := open_ans f3
    simp only [List.cons.injEq, and_true] at e0 e1 e2 e3
    subst e0
    subst e1
    subst e2
    obtain ⟨rfl, rfl, rfl, rfl, rfl⟩ := e3
    exact ⟨⟨x0, x1, x2, x3⟩, rfl⟩
theorem open_dsks {H : Type} {enc : TypeId × Value → H} {w : World} {a : Option Addr} {len cap : Nat} (h : Rd enc Try.prog w 25 [.slice a len cap]) :
    ∃ ts : List Desk, ts.length = len ∧ len ≤ cap ∧ cap ≤ maxLen ∧ (a = none → cap = 0) ∧ LRow layDsk w a ts := by
  obtain ⟨xs, h1, h2, h3, _, h5, _, hr⟩ := Rd.rows (α := Desk) (cells := Desk.cells) (size := 8) (good := fun _ => True) (fun _ => rfl) (by decide) Try.underlying25 (by kernel_rfl) (fun cs hcs => by obtain ⟨x, hx⟩ := open_dsk hcs; exact ⟨x, hx, trivial⟩) h
  exact ⟨xs, h1, h2, h3, h5, hr⟩
end Go.Proofs.Ytoofmofaimdhpaa

/- A State argument opened: its seven cells, its four rows. -/
namespace Go.Proofs.Ytoofmofaimdhpaa
open Go.ChangeShapes Go.WideShapes Go.ChangeAt Go.RowKit
set_option maxRecDepth 100000

theorem one_slice {H : Type} {enc : TypeId × Value → H} {P : Program} {w : World} {t e : TypeId} {v : Value} (ht : P.underlying t = some (.slice e)) (h : Rd enc P w t [v]) : ∃ a n c, v = .slice a n c := by
  rcases h.slice ht with h1 | ⟨a, n, c, h1, _⟩
  · simp at h1; exact ⟨_, _, _, h1⟩
  · simp at h1; exact ⟨_, _, _, h1⟩
theorem open_state {H : Type} {enc : TypeId × Value → H} {w : World} {cs : List Value} (h : Rd enc Try.prog w 27 cs) : ∃ (r : Raw) (s : St), cs = r.cells ∧ StAt w 0 r s := by
  obtain ⟨hl, hf⟩ := h.struct Try.underlying27
  have hn : Try.prog.cellsOf 27 = 7 := by kernel_rfl
  have z_int : Try.prog.cellsOf 3 = 1 := by kernel_rfl
  have z_ten : Try.prog.cellsOf 22 = 1 := by kernel_rfl
  have z_lea : Try.prog.cellsOf 23 = 1 := by kernel_rfl
  have z_ses : Try.prog.cellsOf 24 = 1 := by kernel_rfl
  have z_dsk : Try.prog.cellsOf 25 = 1 := by kernel_rfl
  rw [hn] at hl
  match cs, hl with
  | [v0, v1, v2, v3, v4, v5, v6], _ =>
    have f0 : Rd enc Try.prog w 3 ((([v0, v1, v2, v3, v4, v5, v6] : List Value).drop 0).take (Try.prog.cellsOf 3)) := hf 0 _ rfl
    rw [z_int] at f0
    replace f0 : Rd enc Try.prog w 3 [v0] := f0
    obtain ⟨x0, e0, -⟩ := f0.int Try.underlying3
    have f1 : Rd enc Try.prog w 3 ((([v0, v1, v2, v3, v4, v5, v6] : List Value).drop 1).take (Try.prog.cellsOf 3)) := hf 1 _ rfl
    rw [z_int] at f1
    replace f1 : Rd enc Try.prog w 3 [v1] := f1
    obtain ⟨x1, e1, -⟩ := f1.int Try.underlying3
    have f2 : Rd enc Try.prog w 3 ((([v0, v1, v2, v3, v4, v5, v6] : List Value).drop 2).take (Try.prog.cellsOf 3)) := hf 2 _ rfl
    rw [z_int] at f2
    replace f2 : Rd enc Try.prog w 3 [v2] := f2
    obtain ⟨x2, e2, -⟩ := f2.int Try.underlying3
    have f3 : Rd enc Try.prog w 22 ((([v0, v1, v2, v3, v4, v5, v6] : List Value).drop 3).take (Try.prog.cellsOf 22)) := hf 3 _ rfl
    rw [z_ten] at f3
    replace f3 : Rd enc Try.prog w 22 [v3] := f3
    obtain ⟨a3, n3, c3, rfl⟩ := one_slice Try.underlying22 f3
    obtain ⟨ts, l3, k3, z3, r3⟩ := open_tenants f3
    have f4 : Rd enc Try.prog w 23 ((([v0, v1, v2, (Value.slice a3 n3 c3), v4, v5, v6] : List Value).drop 4).take (Try.prog.cellsOf 23)) := hf 4 _ rfl
    rw [z_lea] at f4
    replace f4 : Rd enc Try.prog w 23 [v4] := f4
    obtain ⟨a4, n4, c4, rfl⟩ := one_slice Try.underlying23 f4
    obtain ⟨ls, l4, k4, m4, z4, r4⟩ := open_leas f4
    have f5 : Rd enc Try.prog w 24 ((([v0, v1, v2, (Value.slice a3 n3 c3), (Value.slice a4 n4 c4), v5, v6] : List Value).drop 5).take (Try.prog.cellsOf 24)) := hf 5 _ rfl
    rw [z_ses] at f5
    replace f5 : Rd enc Try.prog w 24 [v5] := f5
    obtain ⟨a5, n5, c5, rfl⟩ := one_slice Try.underlying24 f5
    obtain ⟨ss, l5, k5, m5, z5, r5⟩ := open_sess f5
    have f6 : Rd enc Try.prog w 25 ((([v0, v1, v2, (Value.slice a3 n3 c3), (Value.slice a4 n4 c4), (Value.slice a5 n5 c5), v6] : List Value).drop 6).take (Try.prog.cellsOf 25)) := hf 6 _ rfl
    rw [z_dsk] at f6
    replace f6 : Rd enc Try.prog w 25 [v6] := f6
    obtain ⟨a6, n6, c6, rfl⟩ := one_slice Try.underlying25 f6
    obtain ⟨ds, l6, k6, m6, z6, r6⟩ := open_dsks f6
    simp only [List.cons.injEq, and_true] at e0 e1 e2
    subst e0
    subst e1
    subst e2
    exact ⟨⟨x0, x1, x2, ⟨a3, n3, c3⟩, ⟨a4, n4, c4⟩, ⟨a5, n5, c5⟩, ⟨a6, n6, c6⟩⟩, ⟨x0, x1, x2, ts, ls, ss, ds⟩, rfl, rfl, rfl, rfl, ⟨l3, k3, z3, fun b _ _ _ => .inl (Nat.zero_le b), r3⟩, ⟨l4, k4, z4, fun b _ _ _ => .inl (Nat.zero_le b), r4⟩, ⟨l5, k5, z5, fun b _ _ _ => .inl (Nat.zero_le b), r5⟩, ⟨l6, k6, z6, fun b _ _ _ => .inl (Nat.zero_le b), r6⟩⟩
end Go.Proofs.Ytoofmofaimdhpaa

namespace Go.Proofs.Ytoofmofaimdhpaa
open Go.ChangeShapes Go.WideShapes Go.ChangeAt Go.RowKit
set_option maxRecDepth 100000

def greatB (s : St) : Bool := decide (60 < s.tens.length ∨ 100 < s.leas.length ∨ 60 < s.sess.length ∨ 60 < s.dsks.length)
set_option maxHeartbeats 1000000 in
theorem great_st (s : St) (r : Raw) (B : Nat) (w : World) (h : StAt w B r s) : Calls Try.prog 9 #[r.agg] w fun e w' => e = .returned (.bool (greatB s)) ∧ Below w.heap.size w w' := by
  obtain ⟨term, stamp, next, ⟨a1, n1, c1⟩, ⟨a2, n2, c2⟩, ⟨a3, n3, c3⟩, ⟨a4, n4, c4⟩⟩ := r
  have h1 : s.tens.length = n1 := h.ten.len
  have h2 : s.leas.length = n2 := h.lea.len
  have h3 : s.sess.length = n3 := h.ses.len
  have h4 : s.dsks.length = n4 := h.dsk.len
  have HG : Hid (greatB s = decide (60 < n1 ∨ 100 < n2 ∨ 60 < n3 ∨ 60 < n4)) := by show _ = _; unfold greatB; rw [h1, h2, h3, h4]
  generalize greatB s = res at HG ⊢
  clear h h1 h2 h3 h4
  by_cases g1 : 60 < n1
  · have d1 : decide ((60 : Int) < (n1 : Int)) = true := decide_eq_true (by omega)
    go_enter Try.func9, Try.ntmps9
    go_wp2
    go_returns
    exact ⟨ret_bool (by rw [HG.out]; first | (symm; exact decide_eq_true (by omega)) | (rw [Bool.eq_iff_iff]; simp only [decide_eq_true_iff, decide_true, decide_false]; omega) | (rw [Bool.eq_iff_iff]; simp; omega) | (simp; omega)), (by repeat' (first | (with_reducible exact Below.refl _ _) | (with_reducible assumption) | (with_reducible refine Below.drew ?_) | (with_reducible refine Below.more ?_ _) | (with_reducible refine Below.put ?_ ?_ _) | (with_reducible refine Below.next ?_ (by with_reducible assumption)) | (with_reducible exact Nat.le_refl _) | (with_reducible refine Below.size' ?_) | omega))⟩
  · by_cases g2 : 100 < n2
    · go_enter Try.func9, Try.ntmps9
      go_wp2
      go_returns
      exact ⟨ret_bool (by rw [HG.out]; first | (symm; exact decide_eq_true (by omega)) | (rw [Bool.eq_iff_iff]; simp only [decide_eq_true_iff, decide_true, decide_false]; omega) | (rw [Bool.eq_iff_iff]; simp; omega) | (simp; omega)), (by repeat' (first | (with_reducible exact Below.refl _ _) | (with_reducible assumption) | (with_reducible refine Below.drew ?_) | (with_reducible refine Below.more ?_ _) | (with_reducible refine Below.put ?_ ?_ _) | (with_reducible refine Below.next ?_ (by with_reducible assumption)) | (with_reducible exact Nat.le_refl _) | (with_reducible refine Below.size' ?_) | omega))⟩
    · by_cases g3 : 60 < n3
      · go_enter Try.func9, Try.ntmps9
        go_wp2
        go_returns
        exact ⟨ret_bool (by rw [HG.out]; first | (symm; exact decide_eq_true (by omega)) | (rw [Bool.eq_iff_iff]; simp only [decide_eq_true_iff, decide_true, decide_false]; omega) | (rw [Bool.eq_iff_iff]; simp; omega) | (simp; omega)), (by repeat' (first | (with_reducible exact Below.refl _ _) | (with_reducible assumption) | (with_reducible refine Below.drew ?_) | (with_reducible refine Below.more ?_ _) | (with_reducible refine Below.put ?_ ?_ _) | (with_reducible refine Below.next ?_ (by with_reducible assumption)) | (with_reducible exact Nat.le_refl _) | (with_reducible refine Below.size' ?_) | omega))⟩
      · by_cases g4 : 60 < n4
        · go_enter Try.func9, Try.ntmps9
          go_wp2
          go_returns
          exact ⟨ret_bool (by rw [HG.out]; first | (symm; exact decide_eq_true (by omega)) | (rw [Bool.eq_iff_iff]; simp only [decide_eq_true_iff, decide_true, decide_false]; omega) | (rw [Bool.eq_iff_iff]; simp; omega) | (simp; omega)), (by repeat' (first | (with_reducible exact Below.refl _ _) | (with_reducible assumption) | (with_reducible refine Below.drew ?_) | (with_reducible refine Below.more ?_ _) | (with_reducible refine Below.put ?_ ?_ _) | (with_reducible refine Below.next ?_ (by with_reducible assumption)) | (with_reducible exact Nat.le_refl _) | (with_reducible refine Below.size' ?_) | omega))⟩
        · go_enter Try.func9, Try.ntmps9
          go_wp2
          go_returns
          exact ⟨ret_bool (by rw [HG.out]; first | (symm; exact decide_eq_false (by omega)) | (rw [Bool.eq_iff_iff]; simp only [decide_eq_true_iff, decide_true, decide_false]; omega) | (rw [Bool.eq_iff_iff]; simp; omega) | (simp; omega)), (by repeat' (first | (with_reducible exact Below.refl _ _) | (with_reducible assumption) | (with_reducible refine Below.drew ?_) | (with_reducible refine Below.more ?_ _) | (with_reducible refine Below.put ?_ ?_ _) | (with_reducible refine Below.next ?_ (by with_reducible assumption)) | (with_reducible exact Nat.le_refl _) | (with_reducible refine Below.size' ?_) | omega))⟩
end Go.Proofs.Ytoofmofaimdhpaa

/- A drawn region: an operation that its guard strikes may be taken first. -/
namespace Go.Proofs.Ytoofmofaimdhpaa
open Go

section
variable {P : Program} {ops : Array Oper} {Q : Exit → Act → World → Prop} {md : Region.Mode} {S : World → Prop}
theorem wpAnyH_skip (i : Nat) (d : Option Tmp) {fuel : Nat} {listed : Array Bool} {a : Act} {w : World} (hi : (ops[i]?).map (fun o => o.dst) = some d)
    (hs : Region.noSelect ops = true) (hf : Region.free md ops listed i = true) (hr : (Region.ready md ops listed).contains i = true)
    (hQ : ∀ c a w, Q (.panic c) (a.put d undef) w → Q (.panic c) a w) (hw : (ops[i]?).map (fun o => Region.wanted o (yielded ops a.tmps)) = some false) (hS : S w)
    (h : wpAnyH P md ops Q S fuel (listed.setIfInBounds i true) (a.put d undef) w) : wpAnyH P md ops Q S (fuel + 1) listed a w := by
  cases ho : ops[i]? with
  | none => rw [ho] at hi; cases hi
  | some o =>
    rw [ho, Option.map_some] at hi hw
    obtain rfl := Option.some.inj hi
    exact wpAnyH_take ho hs hf hr hQ (Or.inr ⟨Option.some.inj hw, rfl⟩) hS h
end
end Go.Proofs.Ytoofmofaimdhpaa

namespace Go.Proofs.Ytoofmofaimdhpaa
open Go.ChangeShapes Go.WideShapes Go.ChangeAt Go.RowKit
set_option maxRecDepth 100000

set_option maxHeartbeats 4000000 in
theorem refout_any (ls : List Lease) (r : Raw) (id : Int) (w : World) (hl : ls.length = r.lea.n) (h64 : ls.length ≤ 1000) (hf : Fits ls) (hr : LRow layLea w r.lea.a ls) :
    Calls Try.prog 18 #[r.agg, .int .i64 id] w fun e w' => e = .returned (.int .i64 (outL ls id)) ∧ Below w.heap.size w w' := by
  obtain ⟨term, stamp, next, ⟨a1, n1, c1⟩, ⟨a, n, c⟩, ⟨a3, n3, c3⟩, ⟨a4, n4, c4⟩⟩ := r
  simp only at hl hr
  subst hl
  have HF := Lib.hid hf
  have HRG := Lib.hid (fun (k : Nat) (hk : k ≤ ls.length) => outL_range id (hf.sub (m := ls.take k) (fun x hx => List.mem_of_mem_take hx)))
  have HT := Lib.hid (fun k (h : k < ls.length) => outL_take h id)
  have HE : Hid (outL (ls.take ls.length) id = outL ls id) := by show _ = _; rw [List.take_length]
  generalize outL ls id = res at HE ⊢
  clear hf
  go_enter Try.func18, Try.ntmps18
  go_wp2
  go_loopw [5, 6] (fun z i wr => ∃ k : Nat, ∃ v : Int, k ≤ ls.length ∧ i = .int .i64 k ∧ z = .int .i64 v ∧ Hid (v = outL (ls.take k) id) ∧ Below (w.alloc (.cells #[.int .i64 term, .int .i64 stamp, .int .i64 next, .slice a1 n1 c1, .slice a ls.length c, .slice a3 n3 c3, .slice a4 n4 c4] 27)).heap.size (w.alloc (.cells #[.int .i64 term, .int .i64 stamp, .int .i64 next, .slice a1 n1 c1, .slice a ls.length c, .slice a3 n3 c3, .slice a4 n4 c4] 27)) wr) (fun _ i _ => ls.length - (intOf i).toNat)
  case atStart => exact ⟨0, 0, by omega, rfl, rfl, rfl, Below.refl _ _⟩
  case round =>
    obtain ⟨k, v, hk, rfl, rfl, hv, hb0⟩ := hrel
    have hb : Below w.heap.size w wr := mid_alloc' hb0
    have hbx : Box wr w.heap.size [.int .i64 term, .int .i64 stamp, .int .i64 next, .slice a1 n1 c1, .slice a ls.length c, .slice a3 n3 c3, .slice a4 n4 c4] := Box.of_alloc hb0
    have k4 := hbx.cell (j := 4) rfl
    clear hbx
    by_cases hlt : k < ls.length
    · have hR := HRG.out k hk
      have hlen : (ls.take k).length = k := by simp; omega
      rw [hlen, ← hv.out] at hR
      obtain ⟨hR1, hR2⟩ := hR
      have HT1 := Lib.hid (HT.out k hlt)
      have hX := HF.out ls[k] (List.getElem_mem hlt)
      obtain ⟨b, o, ha, hcs⟩ := atLea hr hlt
      subst ha
      have hx := hcs _ hb
      generalize ls[k] = x at hx HT1 hX
      clear hcs
      obtain ⟨xid, xten, xsh, xep, xnu, xsz, xsp⟩ := x
      obtain ⟨x0, x1, _, _, _, x5, x6⟩ := hx
      simp only at x1 x5 x6 hX
      obtain ⟨_, _, g1, g2, g3, g4⟩ := hX
      have HB := Lib.hid hb0
      by_cases he : xten = id
      · have hw1 : IntKind.i64.wrap (v + xsz) = v + xsz := IntWalk.i64_in _ ⟨by omega, by omega⟩
        have hw2 : IntKind.i64.wrap (v + xsz - xsp) = v + xsz - xsp := IntWalk.i64_in _ ⟨by omega, by omega⟩
        subst he
        go_wp2
        go_quiet (fail)
        go_wp2
        go_roundw
        case rel => exact ⟨k + 1, v + xsz - xsp, by omega, by go_num, rfl, by show _ = _; rw [HT1.out, ← hv.out]; simp; omega, below_drewN HB.out _⟩
        case measure => simp [intOf]; omega
      · go_wp2
        go_roundw
        case rel => exact ⟨k + 1, v, by omega, by go_num, rfl, by show _ = _; rw [HT1.out, ← hv.out]; simp [he], HB.out⟩
        case measure => simp [intOf]; omega
    · obtain rfl : k = ls.length := by omega
      go_wp2
      go_returns
      exact ⟨ret_int (hv.out.trans HE.out), hb⟩
end Go.Proofs.Ytoofmofaimdhpaa

namespace Go.Proofs.Ytoofmofaimdhpaa
open Go.ChangeShapes Go.WideShapes Go.ChangeAt Go.RowKit
set_option maxRecDepth 100000

set_option maxHeartbeats 2000000 in
theorem refsweep_any (ts : List Tenant) (outs : List Int) (a b : Option Addr) (n c m d : Nat) (w : World) (hn : ts.length = n) (hm : outs.length = m) (hl : ts.length ≤ 900) (hlo : m ≤ 1000) (hc : a = none → c = 0) (hnc : n ≤ c) (hr : TRow w a ts) (hro : Row w b (outs.map (Value.int .i64))) :
    Calls Try.prog 72 #[.slice a n c, .slice b m d] w (RetT w a (sweepS ts outs)) := by
  subst hn
  subst hm
  have hmax : ts.length ≤ maxLen := le_maxLen (by omega)
  have HS : Hid (sweepS ts outs = if tensOk 0 ts = true then ts.filter (fun x => !goneP outs x) else ts) := rfl
  generalize sweepS ts outs = res at HS ⊢
  cases h1 : tensOk 0 ts with
  | false =>
    have H1 := Lib.hid h1
    have HO : Hid (res = ts) := by rw [HS.out, if_neg (by rw [h1]; simp)]; exact rfl
    clear h1 HS
    go_enter Try.func72, Try.ntmps72
    go_wp2_with (first
      | (go_at_call 43; ((with_reducible refine (refcheck_any ts a _ _ _ rfl hmax (hr.below (by repeat' (first | (with_reducible exact Below.refl _ _) | (with_reducible assumption) | (with_reducible refine Below.drew ?_) | (with_reducible refine Below.more ?_ _) | (with_reducible refine Below.put ?_ ?_ _) | (with_reducible refine Below.next ?_ (by with_reducible assumption)) | (with_reducible exact Nat.le_refl _) | (with_reducible refine Below.size' ?_) | omega)))).mono ?_); rw [H1.out]; rintro e w3 ⟨rfl, hb3⟩)))
    go_returns
    exact ⟨a, c, by rw [HO.out]; rfl, by rw [HO.out]; exact hnc, hc, Near.self _ _, by rw [HO.out]; exact hr.below (by repeat' (first | (with_reducible exact Below.refl _ _) | (with_reducible assumption) | (with_reducible refine Below.drew ?_) | (with_reducible refine Below.more ?_ _) | (with_reducible refine Below.put ?_ ?_ _) | (with_reducible refine Below.next ?_ (by with_reducible assumption)) | (with_reducible exact Nat.le_refl _) | (with_reducible refine Below.size' ?_) | omega)), (by repeat' (first | (with_reducible exact Below.refl _ _) | (with_reducible assumption) | (with_reducible refine Below.drew ?_) | (with_reducible refine Below.more ?_ _) | (with_reducible refine Below.put ?_ ?_ _) | (with_reducible refine Below.next ?_ (by with_reducible assumption)) | (with_reducible exact Nat.le_refl _) | (with_reducible refine Below.size' ?_) | omega))⟩
  | true =>
    have H1 := Lib.hid h1
    have HID : Hid (∀ x ∈ ts, 1 ≤ x.id ∧ x.id ≤ 16) := fun x hx => by
      have h2 := (tensOk_iff.1 h1).1 x hx
      have h3 := h2.2
      unfold okT at h3
      simp only [Bool.and_eq_true, decide_eq_true_eq] at h3
      exact ⟨by omega, h3.1.1.1⟩
    have HO : Hid (res = ts.filter (fun x => !goneP outs x)) := by rw [HS.out, if_pos h1]; exact rfl
    clear h1 HS
    generalize hq : (fun x => !goneP outs x) = q at HO
    have HQ := Lib.hid hq
    clear hq
    go_enter Try.func72, Try.ntmps72
    go_wp2_with (first
      | (go_at_call 43; ((with_reducible refine (refcheck_any ts a _ _ _ rfl hmax (hr.below (by repeat' (first | (with_reducible exact Below.refl _ _) | (with_reducible assumption) | (with_reducible refine Below.drew ?_) | (with_reducible refine Below.more ?_ _) | (with_reducible refine Below.put ?_ ?_ _) | (with_reducible refine Below.next ?_ (by with_reducible assumption)) | (with_reducible exact Nat.le_refl _) | (with_reducible refine Below.size' ?_) | omega)))).mono ?_); rw [H1.out]; rintro e w3 ⟨rfl, hb3⟩)))
    go_loopw [5, 6] (fun out i wr => ∃ k : Nat, ∃ a' c', k ≤ ts.length ∧ i = .int .i64 k ∧ out = .slice a' ((ts.take k).filter q).length c' ∧ wr.ownsRow w.heap.size 55 5 (.slice a' ((ts.take k).filter q).length c') ((ts.take k).filter q).length (((ts.take k).filter q).flatMap Tenant.cells) ∧ Below w.heap.size w wr) (fun _ i _ => ts.length - (intOf i).toNat)
    case atStart => exact ⟨0, none, 0, by omega, rfl, rfl, World.ownsRow_nil _ _ _ _, hb3⟩
    case round =>
      obtain ⟨k, a', c', hk, rfl, rfl, hown, hb⟩ := hrel
      by_cases hlt : k < ts.length
      · obtain ⟨b1, o1, rfl, hcs⟩ := hr.at hlt
        obtain ⟨h0, h1, h2, h3, h4⟩ := hcs _ hb
        obtain ⟨hid1, hid2⟩ := HID.out ts[k] (List.getElem_mem hlt)
        clear hcs
        have HTK : Hid (ts.take (k + 1) = ts.take k ++ [ts[k]]) := List.take_succ_eq_append_getElem hlt
        have hfl : ((ts.take k).filter q).length ≤ k := by
          have := List.length_filter_le q (ts.take k)
          rw [List.length_take] at this; omega
        have HQK : Hid (q ts[k] = !(ts[k].gone && decide (outOf outs ts[k].id ≤ 0))) := by show _ = _; rw [← HQ.out]; rfl
        have HN : Hid (q ts[k] = false → (ts.take (k + 1)).filter q = (ts.take k).filter q) := fun h => by rw [HTK.out, List.filter_append]; simp [h]
        have HY : Hid (q ts[k] = true → (ts.take (k + 1)).filter q = (ts.take k).filter q ++ [ts[k]]) := fun h => by rw [HTK.out, List.filter_append]; simp [h]
        generalize hx : ts[k] = x at h0 h1 h2 h3 h4 hid1 hid2 HQK HN HY
        clear hx HTK
        obtain ⟨id, rate, burst, bucket, gone⟩ := x
        simp only at h0 h1 h2 h3 h4 hid1 hid2
        by_cases hfar : (outs.length : Int) < id
        · have hlt8 : decide (id - 1 < (outs.length : Int)) = false := decide_eq_false (by omega)
          cases gone with
          | false =>
            have HGP : Hid ((false && decide (outOf outs id ≤ 0)) = false) := rfl
            have HF := Lib.hid (HY.out (by rw [HQK.out]; exact congrArg (fun b => !b) HGP.out))
            go_wp2_with (at_builtin; refine wpList_app el_tenants rfl _ _ rfl w.heap.size _ ((ts.take k).filter q).length _ rfl (hown.alloc _) (some ⟨wr.heap.size, 0, none⟩) 1 1 (Tenant.cells ⟨id, rate, burst, bucket, false⟩) rfl rfl (Row.new _ _ _ _) (by intro u hu; simp at hu; rcases hu with rfl | rfl | rfl | rfl | rfl <;> rfl) (by omega) (by have := hb.size; simp; omega) ?_; intro a2 c2 w2 hown2 hg2; have hb2 := Below.app (hb.alloc hb.size _) (hown.alloc _) hg2 (by have := hb.size; simp; omega); clear hg2 h0 h1 h2 h3 h4)
            go_roundw
            case rel => exact ⟨k + 1, a2, c2, by omega, by go_num, by rw [HF.out]; simp, by rw [HF.out, List.length_append, List.flatMap_append]; simpa using hown2, hb2⟩
            case measure => simp [intOf]; omega
          | true =>
            have HGP : Hid ((true && decide (outOf outs id ≤ 0)) = true) := by show _ = _; rw [outOf_far hfar]; rfl
            have HF := Lib.hid (HN.out (by rw [HQK.out]; exact congrArg (fun b => !b) HGP.out))
            go_wp2
            go_roundw
            case rel => exact ⟨k + 1, a', c', by omega, by go_num, by rw [HF.out], by rw [HF.out]; exact hown, hb⟩
            case measure => simp [intOf]; omega
        · obtain ⟨j, hj, hj2, hj3⟩ := outOf_at (outs := outs) (id := id) (by omega) (by omega)
          obtain ⟨b5, o5, rfl, hcell⟩ := Row.getBelow hro (k := j) (by rw [List.getElem?_map, hj3]; rfl)
          have hcl := hcell _ hb
          obtain rfl : id = j + 1 := by omega
          generalize hov : outOf outs (j + 1) = ov at hcl HQK
          clear hcell hj3 hov hj2
          cases gone with
          | false =>
            have HGP : Hid ((false && decide (ov ≤ 0)) = false) := rfl
            have HF := Lib.hid (HY.out (by rw [HQK.out]; exact congrArg (fun b => !b) HGP.out))
            go_wp2_with (at_builtin; refine wpList_app el_tenants rfl _ _ rfl w.heap.size _ ((ts.take k).filter q).length _ rfl (hown.alloc _) (some ⟨wr.heap.size, 0, none⟩) 1 1 (Tenant.cells ⟨j + 1, rate, burst, bucket, false⟩) rfl rfl (Row.new _ _ _ _) (by intro u hu; simp at hu; rcases hu with rfl | rfl | rfl | rfl | rfl <;> rfl) (by omega) (by have := hb.size; simp; omega) ?_; intro a2 c2 w2 hown2 hg2; have hb2 := Below.app (hb.alloc hb.size _) (hown.alloc _) hg2 (by have := hb.size; simp; omega); clear hg2 h0 h1 h2 h3 h4)
            go_roundw
            case rel => exact ⟨k + 1, a2, c2, by omega, by go_num, by rw [HF.out]; simp, by rw [HF.out, List.length_append, List.flatMap_append]; simpa using hown2, hb2⟩
            case measure => simp [intOf]; omega
          | true =>
            by_cases hov : ov ≤ 0
            · have HGP : Hid ((true && decide (ov ≤ 0)) = true) := by show _ = _; rw [decide_eq_true hov]; rfl
              have hgt : decide (0 < ov) = false := decide_eq_false (by omega)
              have HF := Lib.hid (HN.out (by rw [HQK.out]; exact congrArg (fun b => !b) HGP.out))
              go_wp2
              go_roundw
              case rel => exact ⟨k + 1, a', c', by omega, by go_num, by rw [HF.out], by rw [HF.out]; exact hown, hb⟩
              case measure => simp [intOf]; omega
            · have HGP : Hid ((true && decide (ov ≤ 0)) = false) := by show _ = _; rw [decide_eq_false hov]; rfl
              have hgt : decide (0 < ov) = true := decide_eq_true (by omega)
              have HF := Lib.hid (HY.out (by rw [HQK.out]; exact congrArg (fun b => !b) HGP.out))
              go_wp2_with (at_builtin; refine wpList_app el_tenants rfl _ _ rfl w.heap.size _ ((ts.take k).filter q).length _ rfl (hown.alloc _) (some ⟨wr.heap.size, 0, none⟩) 1 1 (Tenant.cells ⟨j + 1, rate, burst, bucket, true⟩) rfl rfl (Row.new _ _ _ _) (by intro u hu; simp at hu; rcases hu with rfl | rfl | rfl | rfl | rfl <;> rfl) (by omega) (by have := hb.size; simp; omega) ?_; intro a2 c2 w2 hown2 hg2; have hb2 := Below.app (hb.alloc hb.size _) (hown.alloc _) hg2 (by have := hb.size; simp; omega); clear hg2 h0 h1 h2 h3 h4)
              go_roundw
              case rel => exact ⟨k + 1, a2, c2, by omega, by go_num, by rw [HF.out]; simp, by rw [HF.out, List.length_append, List.flatMap_append]; simpa using hown2, hb2⟩
              case measure => simp [intOf]; omega
      · have HT : Hid ((ts.take k).filter q = ts.filter q) := by show _ = _; rw [List.take_of_length_le (by omega)]
        go_wp2
        go_returns
        obtain ⟨_, _, hv, hle, _, hnone⟩ := own_slice hown
        simp only [Value.slice.injEq] at hv
        obtain ⟨rfl, _, rfl⟩ := hv
        exact ⟨a', c', by rw [HO.out, ← HT.out]; rfl, by rw [HO.out, ← HT.out]; exact hle, hnone, (Near.own hown (Nat.le_refl _)).trans' _, by rw [HO.out, ← HT.out]; exact own_row hown, hb⟩
end Go.Proofs.Ytoofmofaimdhpaa

/- A Command argument opened. -/
namespace Go.Proofs.Ytoofmofaimdhpaa
open Go.ChangeShapes Go.WideShapes Go.ChangeAt Go.RowKit
set_option maxRecDepth 100000

structure Cmd where
  kind : Int
  client : Int
  number : Int
  tenant : Int
  rate : Int
  burst : Int
  shaper : Int
  epoch : Int
  lease : Int
  size : Int
  spent : Int
  closed : Bool
  leases : Sli
abbrev Cmd.cells (t : Cmd) : List Value := [.int .i8 t.kind, .int .i64 t.client, .int .i64 t.number, .int .i64 t.tenant, .int .i64 t.rate, .int .i64 t.burst, .int .i64 t.shaper, .int .i64 t.epoch, .int .i64 t.lease, .int .i64 t.size, .int .i64 t.spent, .bool t.closed, .slice t.leases.a t.leases.n t.leases.c]
abbrev Cmd.agg (t : Cmd) : Value := .agg #[.int .i8 t.kind, .int .i64 t.client, .int .i64 t.number, .int .i64 t.tenant, .int .i64 t.rate, .int .i64 t.burst, .int .i64 t.shaper, .int .i64 t.epoch, .int .i64 t.lease, .int .i64 t.size, .int .i64 t.spent, .bool t.closed, .slice t.leases.a t.leases.n t.leases.c]
theorem open_cmd {H : Type} {enc : TypeId × Value → H} {w : World} {cs : List Value} (h : Rd enc Try.prog w 53 cs) : ∃ (c : Cmd) (l : List Int), cs = c.cells ∧ l.length = c.leases.n ∧ Row w c.leases.a (l.map (Value.int .i64)) := by
  obtain ⟨hl, hf⟩ := h.struct Try.underlying53
  have hn : Try.prog.cellsOf 53 = 13 := by kernel_rfl
  have z_int : Try.prog.cellsOf 3 = 1 := by kernel_rfl
  have z_i8 : Try.prog.cellsOf 51 = 1 := by kernel_rfl
  have z_bool : Try.prog.cellsOf 4 = 1 := by kernel_rfl
  have z_sl : Try.prog.cellsOf 45 = 1 := by kernel_rfl
  rw [hn] at hl
  match cs, hl with
  | [v0, v1, v2, v3, v4, v5, v6, v7, v8, v9, v10, v11, v12], _ =>
    have f0 : Rd enc Try.prog w 51 ((([v0, v1, v2, v3, v4, v5, v6, v7, v8, v9, v10, v11, v12] : List Value).drop 0).take (Try.prog.cellsOf 51)) := hf 0 _ rfl
    rw [z_i8] at f0
    replace f0 : Rd enc Try.prog w 51 [v0] := f0
    obtain ⟨x0, e0, -⟩ := f0.int Try.underlying51
    have f1 : Rd enc Try.prog w 3 ((([v0, v1, v2, v3, v4, v5, v6, v7, v8, v9, v10, v11, v12] : List Value).drop 1).take (Try.prog.cellsOf 3)) := hf 1 _ rfl
    rw [z_int] at f1
    replace f1 : Rd enc Try.prog w 3 [v1] := f1
    obtain ⟨x1, e1, -⟩ := f1.int Try.underlying3
    have f2 : Rd enc Try.prog w 3 ((([v0, v1, v2, v3, v4, v5, v6, v7, v8, v9, v10, v11, v12] : List Value).drop 2).take (Try.prog.cellsOf 3)) := hf 2 _ rfl
    rw [z_int] at f2
    replace f2 : Rd enc Try.prog w 3 [v2] := f2
    obtain ⟨x2, e2, -⟩ := f2.int Try.underlying3
    have f3 : Rd enc Try.prog w 3 ((([v0, v1, v2, v3, v4, v5, v6, v7, v8, v9, v10, v11, v12] : List Value).drop 3).take (Try.prog.cellsOf 3)) := hf 3 _ rfl
    rw [z_int] at f3
    replace f3 : Rd enc Try.prog w 3 [v3] := f3
    obtain ⟨x3, e3, -⟩ := f3.int Try.underlying3
    have f4 : Rd enc Try.prog w 3 ((([v0, v1, v2, v3, v4, v5, v6, v7, v8, v9, v10, v11, v12] : List Value).drop 4).take (Try.prog.cellsOf 3)) := hf 4 _ rfl
    rw [z_int] at f4
    replace f4 : Rd enc Try.prog w 3 [v4] := f4
    obtain ⟨x4, e4, -⟩ := f4.int Try.underlying3
    have f5 : Rd enc Try.prog w 3 ((([v0, v1, v2, v3, v4, v5, v6, v7, v8, v9, v10, v11, v12] : List Value).drop 5).take (Try.prog.cellsOf 3)) := hf 5 _ rfl
    rw [z_int] at f5
    replace f5 : Rd enc Try.prog w 3 [v5] := f5
    obtain ⟨x5, e5, -⟩ := f5.int Try.underlying3
    have f6 : Rd enc Try.prog w 3 ((([v0, v1, v2, v3, v4, v5, v6, v7, v8, v9, v10, v11, v12] : List Value).drop 6).take (Try.prog.cellsOf 3)) := hf 6 _ rfl
    rw [z_int] at f6
    replace f6 : Rd enc Try.prog w 3 [v6] := f6
    obtain ⟨x6, e6, -⟩ := f6.int Try.underlying3
    have f7 : Rd enc Try.prog w 3 ((([v0, v1, v2, v3, v4, v5, v6, v7, v8, v9, v10, v11, v12] : List Value).drop 7).take (Try.prog.cellsOf 3)) := hf 7 _ rfl
    rw [z_int] at f7
    replace f7 : Rd enc Try.prog w 3 [v7] := f7
    obtain ⟨x7, e7, -⟩ := f7.int Try.underlying3
    have f8 : Rd enc Try.prog w 3 ((([v0, v1, v2, v3, v4, v5, v6, v7, v8, v9, v10, v11, v12] : List Value).drop 8).take (Try.prog.cellsOf 3)) := hf 8 _ rfl
    rw [z_int] at f8
    replace f8 : Rd enc Try.prog w 3 [v8] := f8
    obtain ⟨x8, e8, -⟩ := f8.int Try.underlying3
    have f9 : Rd enc Try.prog w 3 ((([v0, v1, v2, v3, v4, v5, v6, v7, v8, v9, v10, v11, v12] : List Value).drop 9).take (Try.prog.cellsOf 3)) := hf 9 _ rfl
    rw [z_int] at f9
    replace f9 : Rd enc Try.prog w 3 [v9] := f9
    obtain ⟨x9, e9, -⟩ := f9.int Try.underlying3
    have f10 : Rd enc Try.prog w 3 ((([v0, v1, v2, v3, v4, v5, v6, v7, v8, v9, v10, v11, v12] : List Value).drop 10).take (Try.prog.cellsOf 3)) := hf 10 _ rfl
    rw [z_int] at f10
    replace f10 : Rd enc Try.prog w 3 [v10] := f10
    obtain ⟨x10, e10, -⟩ := f10.int Try.underlying3
    have f11 : Rd enc Try.prog w 4 ((([v0, v1, v2, v3, v4, v5, v6, v7, v8, v9, v10, v11, v12] : List Value).drop 11).take (Try.prog.cellsOf 4)) := hf 11 _ rfl
    rw [z_bool] at f11
    replace f11 : Rd enc Try.prog w 4 [v11] := f11
    obtain ⟨x11, e11⟩ := f11.bool Try.underlying4
    have f12 : Rd enc Try.prog w 45 ((([v0, v1, v2, v3, v4, v5, v6, v7, v8, v9, v10, v11, v12] : List Value).drop 12).take (Try.prog.cellsOf 45)) := hf 12 _ rfl
    rw [z_sl] at f12
    replace f12 : Rd enc Try.prog w 45 [v12] := f12
    have hs : ∃ a n c, v12 = .slice a n c := by
      rcases f12.slice Try.underlying45 with h1 | ⟨a, n, c, h1, _⟩
      · simp at h1; exact ⟨_, _, _, h1⟩
      · simp at h1; exact ⟨_, _, _, h1⟩
    obtain ⟨a12, n12, c12, rfl⟩ := hs
    obtain ⟨l, m1, m2, -, -, -, x, hrow⟩ := f12.ints Try.underlying45 Try.underlying3 (by kernel_rfl)
    simp only [List.cons.injEq, and_true] at e0 e1 e2 e3 e4 e5 e6 e7 e8 e9 e10 e11
    subst e0 e1 e2 e3 e4 e5 e6 e7 e8 e9 e10 e11
    exact ⟨⟨x0, x1, x2, x3, x4, x5, x6, x7, x8, x9, x10, x11, ⟨a12, n12, c12⟩⟩, l, rfl, m1, hrow⟩
end Go.Proofs.Ytoofmofaimdhpaa

/- What grants, reports and credits do to a state that may be: it may be behind them; bucket and what is out together. Plain mathematics. -/
namespace Go.Proofs.Ytoofmofaimdhpaa

theorem found_iff {ts : List Tenant} {id : Int} (h : tensOk 0 ts = true) : (findT ts id).2 = true ↔ ∃ x, findO ts id = some x := by
  rw [findT_eq id h]
  cases findO ts id with
  | none => simp
  | some x => simp
theorem leasOk_tens {ts ts' : List Tenant} {n n' : Int} {ls : List Lease} (h : leasOk ts n ls = true) (hn : n ≤ n') (hf : ∀ id, (findT ts id).2 = true → (findT ts' id).2 = true) : leasOk ts' n' ls = true := by
  obtain ⟨h1, h2⟩ := chainOk_iff.1 h
  refine chainOk_iff.2 ⟨fun x hx => ⟨(h1 x hx).1, ?_⟩, h2⟩
  have h3 := (h1 x hx).2
  unfold leaGood at h3 ⊢
  simp only [Bool.and_eq_true, decide_eq_true_eq] at h3 ⊢
  exact ⟨hf _ h3.1, by omega⟩
/-- A tenant set in the place of the one of its number. -/
theorem setS_facts {ts : List Tenant} {x : Tenant} (h : tensOk 0 ts = true) (hx : 0 < x.id) (ho : okT x = true) :
    setS ts x = (withL x ts, 0) ∧ tensOk 0 (withL x ts) = true ∧ findO (withL x ts) x.id = some x ∧ ∀ other, other ≠ x.id → findO (withL x ts) other = findO ts other := by
  obtain ⟨f1, f2, f3⟩ := withL_facts h hx ho
  exact ⟨by unfold setS; rw [if_pos ⟨h, f1⟩], f1, f2, f3⟩
theorem with_found {ts : List Tenant} {x : Tenant} (h : tensOk 0 ts = true) (hx : 0 < x.id) (ho : okT x = true) (id : Int) (hf : (findT ts id).2 = true) : (findT (withL x ts) id).2 = true := by
  obtain ⟨f1, f2, f3⟩ := withL_facts h hx ho
  rw [found_iff f1]
  by_cases he : id = x.id
  · exact ⟨x, by rw [he]; exact f2⟩
  · rw [f3 id he]; exact (found_iff h).1 hf
theorem with_mem {ts : List Tenant} {x y : Tenant} (h : tensOk 0 ts = true) (hx : 0 < x.id) (ho : okT x = true) (hy : y ∈ withL x ts) : y = x ∨ (y ∈ ts ∧ y.id ≠ x.id) := by
  obtain ⟨f1, f2, f3⟩ := withL_facts h hx ho
  have h1 := findO_of_mem (tensOk_iff.1 f1).2 hy
  by_cases he : y.id = x.id
  · left; rw [he, f2] at h1; simpa using h1.symm
  · right; rw [f3 _ he] at h1; exact ⟨(findO_mem h1).1, he⟩
theorem buck_with {ts : List Tenant} {x : Tenant} (h : tensOk 0 ts = true) (hx : 0 < x.id) (ho : okT x = true) (id : Int) : buck (withL x ts) id = if id = x.id then x.bucket else buck ts id := by
  obtain ⟨f1, f2, f3⟩ := withL_facts h hx ho
  unfold buck
  rw [findT_eq id f1]
  by_cases he : id = x.id
  · rw [if_pos he, he, f2]
  · rw [if_neg he, f3 id he, findT_eq id h]
theorem okT_parts {x : Tenant} (h : okT x = true) : x.id ≤ 16 ∧ mayB x.rate x.burst = true ∧ 0 ≤ x.bucket ∧ x.bucket ≤ 1000000000 ∧ (x.gone = true → x.rate = 0 ∧ x.burst = 0 ∧ x.bucket = 0) := by
  unfold okT ask2 ask3 ask4 at h
  simp only [Bool.and_eq_true, decide_eq_true_eq] at h
  refine ⟨h.1.1.1, h.1.1.2, h.1.2.1, h.1.2.2, fun hg => ?_⟩
  have := h.2
  rw [hg] at this
  simpa using this
theorem okT_mk {x : Tenant} (h1 : x.id ≤ 16) (h2 : mayB x.rate x.burst = true) (h3 : 0 ≤ x.bucket ∧ x.bucket ≤ 1000000000) (h4 : x.gone = false) : okT x = true := by
  unfold okT ask2 ask3 ask4
  simp only [Bool.and_eq_true, decide_eq_true_eq, h4]
  exact ⟨⟨⟨h1, h2⟩, h3⟩, rfl⟩
theorem may_parts {r b : Int} (h : mayB r b = true) : 0 ≤ r ∧ r ≤ 1000000 ∧ 0 ≤ b ∧ b ≤ 1000000 := by
  unfold mayB at h; simpa using h
theorem tenRoom_iff {ls : List Lease} {t : Tenant} : tenRoom ls t = true ↔ (0 < t.bucket → t.bucket + 1000 * outL ls t.id ≤ 1000 * t.burst) := by
  unfold tenRoom; exact decide_eq_true_iff
theorem findT_mem {ts : List Tenant} {id : Int} (h : tensOk 0 ts = true) (hf : (findT ts id).2 = true) : (findT ts id).1 ∈ ts ∧ (findT ts id).1.id = id := by
  obtain ⟨x, hx⟩ := (found_iff h).1 hf
  rw [findT_eq id h, hx]
  exact findO_mem hx
theorem swept_ok {s : St} (h : stOk s = true) : stOk (sweptS s) = true := by
  obtain ⟨h1, h2, h3, h4⟩ := stOk_parts h
  exact stOk_swept h1 h2 h3 h4
/-- A grant. -/
theorem grant_ok {s : St} (h : stOk s = true) (sh ep nu te sz : Int) : stOk (grantS s sh ep nu te sz).1 = true ∧
    (∀ id, buck (grantS s sh ep nu te sz).1.tens id + 1000 * outL (grantS s sh ep nu te sz).1.leas id = buck s.tens id + 1000 * outL s.leas id) ∧
    ((grantS s sh ep nu te sz).2.e = 0 → outL (grantS s sh ep nu te sz).1.leas te = outL s.leas te + sz) := by
  obtain ⟨h1, h2, h3, h4⟩ := stOk_parts h
  have href : ∀ e : Int, e ≠ 0 → stOk (sweptS s, Ans.err e).1 = true ∧ (∀ id, buck (sweptS s, Ans.err e).1.tens id + 1000 * outL (sweptS s, Ans.err e).1.leas id = buck s.tens id + 1000 * outL s.leas id) ∧
      ((sweptS s, Ans.err e).2.e = 0 → outL (sweptS s, Ans.err e).1.leas te = outL s.leas te + sz) := fun e he =>
    ⟨stOk_swept h1 h2 h3 h4, fun id => by simp only; rw [buck_swept h1]; rfl, fun h0 => absurd h0 he⟩
  unfold grantS
  rw [if_neg (by rw [h]; simp)]
  by_cases c1 : argsBad sh ep nu sz
  · rw [if_pos c1]; exact href 2 (by decide)
  rw [if_neg c1]
  by_cases c2 : (findT s.tens te).2 = false ∨ (findT s.tens te).1.gone = true
  · rw [if_pos c2]; exact href 161 (by decide)
  rw [if_neg c2]
  by_cases c3 : 64 ≤ s.leas.length ∨ 1099511627776 ≤ s.next
  · rw [if_pos c3]; exact href 100 (by decide)
  rw [if_neg c3]
  by_cases c4 : (takeI (findT s.tens te).1.bucket sz).2 ≠ 0
  · rw [if_pos c4]; exact href _ c4
  rw [if_neg c4]
  simp only [not_or, Bool.not_eq_false, Bool.not_eq_true] at c2
  unfold argsBad at c1
  have htk : takeI (findT s.tens te).1.bucket sz = ((findT s.tens te).1.bucket - 1000 * sz, 0) ∧ 1000 * sz ≤ (findT s.tens te).1.bucket := by
    unfold takeI at c4 ⊢
    split at c4
    · exact absurd (by decide) c4
    · rename_i hc
      rw [if_neg hc]
      exact ⟨rfl, by omega⟩
  obtain ⟨htk, hle⟩ := htk
  rw [htk]
  obtain ⟨m1, m2⟩ := findT_mem h1 c2.1
  have hok := (tensOk_iff.1 h1).1 _ m1
  have hbk : buck s.tens te = (findT s.tens te).1.bucket := rfl
  generalize (findT s.tens te).1 = x at *
  obtain ⟨p1, p2, p3, p4, p5⟩ := okT_parts hok.2
  have hid : 0 < ({ x with bucket := x.bucket - 1000 * sz } : Tenant).id := hok.1
  have hko : okT { x with bucket := x.bucket - 1000 * sz } = true := okT_mk p1 p2 ⟨by show 0 ≤ x.bucket - 1000 * sz; omega, by show x.bucket - 1000 * sz ≤ _; omega⟩ c2.2
  obtain ⟨f0, f1, f2, f3⟩ := setS_facts h1 hid hko
  simp only
  rw [f0]
  have hout : ∀ id, outL (s.leas ++ [⟨s.next, te, sh, ep, nu, sz, 0⟩]) id = outL s.leas id + if te = id then sz else 0 := fun id => by
    rw [outL_append]; simp [outL]
  have hfit := leasOk_fits h1 h2
  refine ⟨stOk_swept f1 ?_ ⟨by simp; omega, by show 1 ≤ s.next + 1; omega, by show s.next + 1 ≤ _; omega⟩ ?_, fun id => ?_, fun _ => ?_⟩
  · show leasOk (withL _ s.tens) (s.next + 1) (s.leas ++ [_]) = true
    obtain ⟨l1, l2⟩ := chainOk_iff.1 (leasOk_tens h2 (show s.next ≤ s.next + 1 by omega) (with_found h1 hid hko))
    refine chainOk_iff.2 ⟨fun y hy => ?_, ?_⟩
    · rcases List.mem_append.1 hy with hy | hy
      · exact l1 y hy
      · rw [List.mem_singleton.1 hy]
        refine ⟨by show 0 < s.next; omega, ?_⟩
        unfold leaGood
        simp only [Bool.and_eq_true, decide_eq_true_eq]
        exact ⟨with_found h1 hid hko te c2.1, by omega⟩
    · refine List.pairwise_append.2 ⟨l2, List.pairwise_singleton _ _, fun y hy z hz => ?_⟩
      rw [List.mem_singleton.1 hz]
      have := ((chainOk_iff.1 h2).1 y hy).2
      unfold leaGood at this
      simp only [Bool.and_eq_true, decide_eq_true_eq] at this
      exact this.2.1
  · intro y hy
    show tenRoom (s.leas ++ [_]) y = true
    rw [tenRoom_iff, hout]
    rcases with_mem h1 hid hko hy with rfl | ⟨hy, hne⟩
    · have h5 := tenRoom_iff.1 (h4 _ m1)
      simp only at h5 ⊢
      intro _
      rw [if_pos m2.symm]
      have := h5 (by omega)
      omega
    · have h5 := tenRoom_iff.1 (h4 _ hy)
      rw [if_neg (by simp only at hne; omega)]
      simpa using h5
  · show buck (sweptS { s with tens := withL { x with bucket := x.bucket - 1000 * sz } s.tens, leas := s.leas ++ [⟨s.next, te, sh, ep, nu, sz, 0⟩], next := s.next + 1 }).tens id + 1000 * outL (s.leas ++ [⟨s.next, te, sh, ep, nu, sz, 0⟩]) id = _
    rw [buck_swept f1, hout]
    show buck (withL { x with bucket := x.bucket - 1000 * sz } s.tens) id + _ = _
    rw [buck_with h1 hid hko]
    simp only
    by_cases he : id = x.id
    · rw [if_pos he, if_pos (by omega)]
      have : buck s.tens id = x.bucket := by rw [he, m2]; exact hbk
      omega
    · rw [if_neg he, if_neg (by omega)]; omega
  · show outL (s.leas ++ [⟨s.next, te, sh, ep, nu, sz, 0⟩]) te = _
    rw [hout, if_pos rfl]
/-! Leases spent. -/
theorem outL_spend {le sp : Int} (id : Int) : ∀ {l : List Lease}, (∀ y ∈ l, y.id = le → y.spent ≤ sp) → outL (spendL le sp l) id ≤ outL l id
  | [], _ => Int.le_refl _
  | y :: l, h => by
    have h1 := h y (List.mem_cons_self ..)
    have h2 := outL_spend (le := le) (sp := sp) id (fun z hz => h z (List.mem_cons_of_mem _ hz))
    unfold spendL at h2 ⊢
    rw [List.map_cons, outL, outL]
    by_cases he : y.id = le
    · rw [if_pos he]
      have := h1 he
      simp only
      split <;> omega
    · rw [if_neg he]; omega
theorem rising_eq {l : List Lease} (h : Rising l) {x y : Lease} (hx : x ∈ l) (hy : y ∈ l) (he : x.id = y.id) : x = y := by
  obtain ⟨i, hi, rfl⟩ := List.mem_iff_getElem.1 hx
  obtain ⟨j, hj, rfl⟩ := List.mem_iff_getElem.1 hy
  by_cases hij : i = j
  · subst hij; rfl
  · exact absurd he (h.apart hi hj hij)
theorem leasOk_spend {ts : List Tenant} {n : Int} {ls : List Lease} {x : Lease} {sp : Int} (h : leasOk ts n ls = true) (hx : x ∈ ls) (h1 : x.spent ≤ sp) (h2 : sp < x.size) : leasOk ts n (spendL x.id sp ls) = true := by
  obtain ⟨c1, c2⟩ := chainOk_iff.1 h
  refine chainOk_iff.2 ⟨fun y hy => ?_, ?_⟩
  · unfold spendL at hy
    obtain ⟨z, hz, rfl⟩ := List.mem_map.1 hy
    have h3 := c1 z hz
    by_cases he : z.id = x.id
    · rw [if_pos he]
      have := rising_eq (leasOk_rising h) hz hx he
      subst this
      unfold leaGood at h3 ⊢
      simp only [Bool.and_eq_true, decide_eq_true_eq] at h3 ⊢
      exact ⟨h3.1, h3.2.1, by omega⟩
    · rw [if_neg he]; exact h3
  · unfold spendL
    rw [List.pairwise_map]
    refine c2.imp fun {a b} hab => ?_
    split <;> split <;> simpa using hab
theorem outL_drop {l : List Lease} {x : Lease} (id : Int) (h : Rising l) (hx : x ∈ l) : outL l id = outL (dropL x.id l) id + if x.tenant = id then x.size - x.spent else 0 := by
  induction l with
  | nil => cases hx
  | cons y l ih =>
    have h2 := List.pairwise_cons.1 h
    unfold dropL at ih ⊢
    rw [List.filter_cons, outL]
    rcases List.mem_cons.1 hx with rfl | hx
    · rw [if_neg (show ¬((!decide (x.id = x.id)) = true) by simp)]
      have : (l.filter fun y => !decide (y.id = x.id)) = l := List.filter_eq_self.2 fun y hy => by have := h2.1 y hy; simp; omega
      rw [this]; omega
    · have := h2.1 x hx
      rw [if_pos (show (!decide (y.id = x.id)) = true by simp; omega), outL, ih h2.2 hx]; omega
theorem find_leaIs {l : List Lease} {sh ep le : Int} {x : Lease} (h : l.find? (leaIs sh ep le) = some x) : x ∈ l ∧ x.id = le ∧ x.shaper = sh ∧ x.epoch = ep := by
  have h1 := List.find?_some h
  unfold leaIs at h1
  exact ⟨List.mem_of_find?_eq_some h, by simpa using h1⟩
theorem lea_parts {ts : List Tenant} {n : Int} {ls : List Lease} {x : Lease} (h : leasOk ts n ls = true) (hx : x ∈ ls) : (findT ts x.tenant).2 = true ∧ 1 ≤ x.size ∧ x.size ≤ 1000000 ∧ 0 ≤ x.spent ∧ x.spent < x.size := by
  have := ((chainOk_iff.1 h).1 x hx).2
  unfold leaGood at this
  simp only [Bool.and_eq_true, decide_eq_true_eq] at this
  exact ⟨this.1, by omega⟩
theorem cut_room {b burst out : Int} (h2 : 0 ≤ burst ∧ burst ≤ 1000000) (ho : 0 ≤ out) (h : 0 < cutI b burst out) : cutI b burst out + 1000 * out ≤ 1000 * burst := by
  have h1 := (cutI_range b burst out).2
  generalize cutI b burst out = c at *
  unfold roomI broughtI at h1
  omega
/-- A report. -/
theorem report_ok {s : St} (h : stOk s = true) (sh ep le sp : Int) (cl : Bool) : stOk (reportS s sh ep le sp cl).1 = true ∧
    ∀ id, buck (reportS s sh ep le sp cl).1.tens id + 1000 * outL (reportS s sh ep le sp cl).1.leas id ≤ buck s.tens id + 1000 * outL s.leas id := by
  obtain ⟨h1, h2, h3, h4⟩ := stOk_parts h
  have href : ∀ e : Int, stOk (sweptS s, e).1 = true ∧ (∀ id, buck (sweptS s, e).1.tens id + 1000 * outL (sweptS s, e).1.leas id ≤ buck s.tens id + 1000 * outL s.leas id) := fun e =>
    ⟨stOk_swept h1 h2 h3 h4, fun id => by simp only; rw [buck_swept h1]; exact Int.le_refl _⟩
  unfold reportS
  rw [if_neg (by rw [h]; simp)]
  cases hf : s.leas.find? (leaIs sh ep le) with
  | none => exact href 180
  | some x =>
    simp only
    obtain ⟨hx, rfl, -, -⟩ := find_leaIs hf
    obtain ⟨q1, q2, q3, q4, q5⟩ := lea_parts h2 hx
    have hfit := leasOk_fits h1 h2
    have hris := leasOk_rising h2
    by_cases c1 : sp < x.spent ∨ x.size < sp
    · rw [if_pos c1]; exact href 2
    rw [if_neg c1]
    by_cases c2 : cl = false ∧ sp < x.size
    · rw [if_pos c2]
      have hsp : ∀ id, outL (spendL x.id sp s.leas) id ≤ outL s.leas id := fun id => outL_spend id fun y hy he => by
        have := rising_eq hris hy hx he; subst this; omega
      have hlen : (spendL x.id sp s.leas).length = s.leas.length := by unfold spendL; exact List.length_map _
      refine ⟨stOk_swept h1 (leasOk_spend h2 hx (by omega) c2.2) ⟨by show (spendL x.id sp s.leas).length ≤ 64; omega, h3.2⟩ (fun y hy => tenRoom_less (h4 y hy) (hsp _)), fun id => ?_⟩
      rw [buck_swept (s := { s with leas := spendL x.id sp s.leas }) h1]
      have := hsp id
      show buck s.tens id + 1000 * outL (spendL x.id sp s.leas) id ≤ _
      omega
    rw [if_neg c2]
    have hlen := List.length_filter_le (fun y : Lease => !decide (y.id = x.id)) s.leas
    have hdr : ∀ id, outL (dropL x.id s.leas) id ≤ outL s.leas id := fun id => outL_filter _ id hfit
    by_cases c3 : cl = true ∧ (findT s.tens x.tenant).1.gone = false
    · rw [if_pos c3]
      obtain ⟨m1, m2⟩ := findT_mem h1 q1
      have hok := (tensOk_iff.1 h1).1 _ m1
      have hbk : buck s.tens x.tenant = (findT s.tens x.tenant).1.bucket := rfl
      have hgo := c3.2
      have hob := outL_drop x.tenant hris hx
      rw [if_pos rfl] at hob
      have hor := outL_range x.tenant (hfit.sub (m := dropL x.id s.leas) fun y hy => (List.mem_filter.1 hy).1)
      unfold backT
      generalize (findT s.tens x.tenant).1 = t at *
      obtain ⟨p1, p2, p3, p4, p5⟩ := okT_parts hok.2
      have hmay := may_parts p2
      have hbb : backI t.bucket t.burst (outL (dropL x.id s.leas) x.tenant) (x.size - sp) = cutI (t.bucket + 1000 * (x.size - sp)) t.burst (outL (dropL x.id s.leas) x.tenant) := by
        unfold backI
        have e1 : broughtI t.bucket 0 2305843009213693952 = t.bucket := by unfold broughtI; omega
        have e2 : broughtI (x.size - sp) 0 1000000 = x.size - sp := by unfold broughtI; omega
        rw [e1, e2]
      rw [hbb]
      have hc1 := cutI_range (t.bucket + 1000 * (x.size - sp)) t.burst (outL (dropL x.id s.leas) x.tenant)
      have hc2 := roomI_range t.burst (outL (dropL x.id s.leas) x.tenant)
      have hc3 := cutI_le (t.bucket + 1000 * (x.size - sp)) t.burst (outL (dropL x.id s.leas) x.tenant) (by omega)
      have hc4 := fun hp => cut_room (b := t.bucket + 1000 * (x.size - sp)) (out := outL (dropL x.id s.leas) x.tenant) hmay.2.2 hor.1 hp
      generalize hcu : cutI (t.bucket + 1000 * (x.size - sp)) t.burst (outL (dropL x.id s.leas) x.tenant) = c at *
      have hid : 0 < ({ t with bucket := c } : Tenant).id := hok.1
      have hko : okT { t with bucket := c } = true := okT_mk p1 p2 ⟨hc1.1, by show c ≤ _; omega⟩ hgo
      obtain ⟨f0, f1, f2, f3⟩ := setS_facts h1 hid hko
      rw [f0]
      refine ⟨stOk_swept f1 (leasOk_filter _ (leasOk_tens h2 (Int.le_refl _) (with_found h1 hid hko))) ⟨by show (s.leas.filter _).length ≤ 64; omega, h3.2⟩ ?_, fun id => ?_⟩
      · intro y hy
        show tenRoom (dropL x.id s.leas) y = true
        rcases with_mem h1 hid hko hy with rfl | ⟨hy, hne⟩
        · rw [tenRoom_iff]
          simp only
          intro hp
          rw [m2]
          exact hc4 hp
        · exact tenRoom_less (h4 y hy) (hdr _)
      · show buck (sweptS { s with leas := dropL x.id s.leas, tens := withL { t with bucket := c } s.tens }).tens id + 1000 * outL (dropL x.id s.leas) id ≤ _
        rw [buck_swept f1]
        show buck (withL { t with bucket := c } s.tens) id + _ ≤ _
        rw [buck_with h1 hid hko]
        simp only
        by_cases he : id = t.id
        · rw [if_pos he]
          have e3 : id = x.tenant := by omega
          subst e3
          omega
        · rw [if_neg he]
          have := hdr id
          omega
    · rw [if_neg c3]
      refine ⟨stOk_swept h1 (leasOk_filter _ h2) ⟨by show (s.leas.filter _).length ≤ 64; omega, h3.2⟩ (fun y hy => tenRoom_less (h4 y hy) (hdr _)), fun id => ?_⟩
      rw [buck_swept (s := { s with leas := dropL x.id s.leas, tens := s.tens }) h1]
      have := hdr id
      show buck s.tens id + 1000 * outL (dropL x.id s.leas) id ≤ _
      omega
/-! Credits. -/
theorem credT_id (ls : List Lease) (k : Int) (t : Tenant) : (credT ls k t).id = t.id ∧ (credT ls k t).gone = t.gone ∧ (credT ls k t).rate = t.rate ∧ (credT ls k t).burst = t.burst := by
  unfold credT; split <;> exact ⟨rfl, rfl, rfl, rfl⟩
theorem findO_map {f : Tenant → Tenant} (hf : ∀ t, (f t).id = t.id) (id : Int) : ∀ ts : List Tenant, findO (ts.map f) id = (findO ts id).map f
  | [] => rfl
  | x :: l => by
    have ih := findO_map hf id l
    unfold findO at ih ⊢
    rw [List.map_cons, List.find?_cons, List.find?_cons, hf]
    split
    · rfl
    · exact ih
theorem credI_facts {t : Tenant} {out k : Int} (h : okT t = true) (hk : 0 ≤ k) (hk2 : k ≤ 1099511627776) (ho : 0 ≤ out) :
    0 ≤ creditI t.bucket t.rate t.burst out k ∧ creditI t.bucket t.rate t.burst out k ≤ 1000000000 ∧ creditI t.bucket t.rate t.burst out k ≤ t.bucket + t.rate * k ∧
    (0 < creditI t.bucket t.rate t.burst out k → creditI t.bucket t.rate t.burst out k + 1000 * out ≤ 1000 * t.burst) := by
  obtain ⟨p1, p2, p3, p4, p5⟩ := okT_parts h
  have hmay := may_parts p2
  have e1 : broughtI t.bucket 0 2305843009213693952 = t.bucket := by unfold broughtI; omega
  have e2 : broughtI t.rate 0 1000000 = t.rate := by unfold broughtI; omega
  have e3 : broughtI k 0 1099511627776 = k := by unfold broughtI; omega
  unfold creditI
  rw [e1, e2, e3]
  have hp : 0 ≤ t.rate * k := Int.mul_nonneg hmay.1 hk
  generalize t.rate * k = m at *
  have hc1 := cutI_range (t.bucket + m) t.burst out
  have hc2 := roomI_range t.burst out
  exact ⟨hc1.1, by omega, cutI_le _ _ _ (by omega), fun hp => cut_room hmay.2.2 ho hp⟩
theorem tensOk_cred {ts : List Tenant} {ls : List Lease} {k : Int} (h : tensOk 0 ts = true) (hk : 0 ≤ k) (hk2 : k ≤ 1099511627776) (hf : Fits ls) : tensOk 0 (ts.map (credT ls k)) = true := by
  obtain ⟨h1, h2⟩ := tensOk_iff.1 h
  refine tensOk_iff.2 ⟨fun y hy => ?_, ?_⟩
  · obtain ⟨x, hx, rfl⟩ := List.mem_map.1 hy
    obtain ⟨h3, h4⟩ := h1 x hx
    refine ⟨by rw [(credT_id _ _ _).1]; exact h3, ?_⟩
    unfold credT
    split
    · exact h4
    · rename_i hg
      obtain ⟨p1, p2, p3, p4, p5⟩ := okT_parts h4
      obtain ⟨c1, c2, -, -⟩ := credI_facts h4 hk hk2 (outL_range x.id hf).1
      exact okT_mk p1 p2 ⟨c1, c2⟩ (by simpa using hg)
  · rw [List.pairwise_map]
    exact h2.imp fun {a b} hab => by rw [(credT_id _ _ _).1, (credT_id _ _ _).1]; exact hab
theorem cred_found {ts : List Tenant} {ls : List Lease} {k : Int} (h : tensOk 0 ts = true) (h' : tensOk 0 (ts.map (credT ls k)) = true) (id : Int) (hf : (findT ts id).2 = true) : (findT (ts.map (credT ls k)) id).2 = true := by
  rw [found_iff h'] 
  obtain ⟨x, hx⟩ := (found_iff h).1 hf
  exact ⟨credT ls k x, by rw [findO_map (fun t => (credT_id _ _ t).1), hx]; rfl⟩
/-- A credit. -/
theorem credit_ok {s : St} (h : stOk s = true) (k : Int) (hk : 0 ≤ k) (hk2 : k ≤ 1099511627776) : stOk (creditS s k) = true ∧ (creditS s k).leas = s.leas ∧
    ∀ id, buck (creditS s k).tens id ≤ buck s.tens id + (findT s.tens id).1.rate * k := by
  obtain ⟨h1, h2, h3, h4⟩ := stOk_parts h
  have hfit := leasOk_fits h1 h2
  have h1' := tensOk_cred h1 hk hk2 hfit
  have he : creditS s k = sweptS { s with tens := s.tens.map (credT s.leas k) } := by unfold creditS; rw [if_pos h]
  rw [he]
  refine ⟨stOk_swept h1' (leasOk_tens h2 (Int.le_refl _) (cred_found h1 h1')) h3 ?_, rfl, fun id => ?_⟩
  · intro y hy
    obtain ⟨x, hx, rfl⟩ := List.mem_map.1 hy
    show tenRoom s.leas _ = true
    have h5 := ((tensOk_iff.1 h1).1 x hx).2
    unfold credT
    split
    · exact h4 x hx
    · rw [tenRoom_iff]
      exact (credI_facts h5 hk hk2 (outL_range x.id hfit).1).2.2.2
  · rw [buck_swept (s := { s with tens := s.tens.map (credT s.leas k) }) h1']
    unfold buck
    simp only
    rw [findT_eq id h1', findT_eq id h1, findO_map (fun t => (credT_id _ _ t).1)]
    cases hf : findO s.tens id with
    | none => simp [zeroT]
    | some x =>
      have h5 := ((tensOk_iff.1 h1).1 x (findO_mem hf).1).2
      show (credT s.leas k x).bucket ≤ x.bucket + x.rate * k
      unfold credT
      split
      · have := Int.mul_nonneg (may_parts (okT_parts h5).2.1).1 hk
        omega
      · exact (credI_facts h5 hk hk2 (outL_range x.id hfit).1).2.2.1
end Go.Proofs.Ytoofmofaimdhpaa

/- Reports of one lease, not closed, in any order: what they leave is what the greatest one leaves. Plain mathematics. -/
namespace Go.Proofs.Ytoofmofaimdhpaa

theorem find_unique {α : Type} {l : List α} {p : α → Bool} {x : α} (hx : x ∈ l) (hp : p x = true) (hu : ∀ y ∈ l, p y = true → y = x) : l.find? p = some x := by
  cases h : l.find? p with
  | none => exact absurd hp (by simpa using List.find?_eq_none.1 h x hx)
  | some y => rw [hu y (List.mem_of_find?_eq_some h) (List.find?_some h)]
theorem goneP_outs {ls : List Lease} {ts : List Tenant} (h : tensOk 0 ts = true) {x : Tenant} (hx : x ∈ ts) : goneP (outsL ls) x = (x.gone && decide (outL ls x.id ≤ 0)) := by
  obtain ⟨h1, h2⟩ := ten_id h hx
  unfold goneP
  rw [outOf_outs h1 h2]
theorem swept_again {a : St} {l : List Lease} (h : tensOk 0 a.tens = true) (hle : ∀ id, outL l id ≤ outL a.leas id) : sweptS { sweptS a with leas := l } = sweptS { a with leas := l } := by
  unfold sweptS
  simp only
  have e : sweepS (sweepS a.tens (outsL a.leas)) (outsL l) = sweepS a.tens (outsL l) := by
    unfold sweepS
    rw [if_pos h, if_pos (tensOk_sub h), if_pos h, List.filter_filter]
    refine List.filter_congr fun x hx => ?_
    rw [goneP_outs h hx, goneP_outs h hx]
    have := hle x.id
    by_cases hg : x.gone = true
    · by_cases ho : outL l x.id ≤ 0
      · simp [hg, ho]
      · have : ¬ outL a.leas x.id ≤ 0 := by omega
        simp [hg, ho, this]
    · simp [hg]
  rw [e]
theorem swept_same {a : St} (h : tensOk 0 a.tens = true) : sweptS (sweptS a) = sweptS a := by
  have := swept_again (a := a) (l := a.leas) h (fun _ => Int.le_refl _)
  exact this
theorem spend_spend {le m v : Int} (l : List Lease) : spendL le v (spendL le m l) = spendL le v l := by
  unfold spendL
  rw [List.map_map]
  refine List.map_congr_left fun y _ => ?_
  simp only [Function.comp]
  by_cases he : y.id = le
  · rw [if_pos he]; simp [he]
  · rw [if_neg he, if_neg he]
theorem drop_spend {le m : Int} (l : List Lease) : dropL le (spendL le m l) = dropL le l := by
  unfold dropL spendL
  induction l with
  | nil => rfl
  | cons y l ih =>
    rw [List.map_cons, List.filter_cons, List.filter_cons, ih]
    by_cases he : y.id = le
    · rw [if_pos he]; simp [he]
    · rw [if_neg he]
theorem spend_self {l : List Lease} {x : Lease} (h : Rising l) (hx : x ∈ l) : spendL x.id x.spent l = l := by
  unfold spendL
  conv => rhs; rw [← List.map_id l]
  refine List.map_congr_left fun y hy => ?_
  by_cases he : y.id = x.id
  · have := rising_eq h hy hx he; subst this; rw [if_pos rfl]; rfl
  · rw [if_neg he]; rfl
def afterL (x : Lease) (v : Int) (ls : List Lease) : List Lease := if v < x.size then spendL x.id v ls else dropL x.id ls
def lateS (s : St) (x : Lease) (v : Int) : St := sweptS { s with leas := afterL x v s.leas }
theorem report_first {s : St} {x : Lease} {v : Int} (h : stOk s = true) (hx : x ∈ s.leas) (h1 : x.spent ≤ v) (h2 : v ≤ x.size) : reportS s x.shaper x.epoch x.id v false = (lateS s x v, 0) := by
  obtain ⟨p1, p2, p3, p4⟩ := stOk_parts h
  have hr := leasOk_rising p2
  have hf : s.leas.find? (leaIs x.shaper x.epoch x.id) = some x := find_unique hx (by unfold leaIs; simp) (fun y hy hp => rising_eq hr hy hx (by unfold leaIs at hp; simp at hp; exact hp.1))
  unfold reportS lateS afterL
  rw [if_neg (by rw [h]; simp), hf]
  simp only
  rw [if_neg (by omega)]
  by_cases hv : v < x.size
  · rw [if_pos (by simp [hv]), if_pos hv]
  · rw [if_neg (by simp [hv]), if_neg hv, if_neg (by simp)]
theorem late_step {s : St} {x : Lease} {m v : Int} (h : stOk s = true) (hx : x ∈ s.leas) (h1 : x.spent ≤ m) (h2 : m ≤ x.size) (h4 : v ≤ x.size) :
    (reportS (lateS s x m) x.shaper x.epoch x.id v false).1 = lateS s x (max m v) := by
  obtain ⟨p1, p2, p3, p4⟩ := stOk_parts h
  have hr := leasOk_rising p2
  have hok : stOk (lateS s x m) = true := by
    have := (report_ok h x.shaper x.epoch x.id m false).1
    rw [report_first h hx h1 h2] at this; exact this
  have hag : sweptS (lateS s x m) = lateS s x m := swept_same (a := { s with leas := afterL x m s.leas }) p1
  unfold reportS
  rw [if_neg (by rw [hok]; simp)]
  have hl : (lateS s x m).leas = afterL x m s.leas := rfl
  by_cases hm : m < x.size
  · have e : afterL x m s.leas = spendL x.id m s.leas := by unfold afterL; rw [if_pos hm]
    rw [e] at hl
    have hr2 : Rising (spendL x.id m s.leas) := by rw [← hl]; exact leasOk_rising (stOk_parts hok).2.1
    have hf : (lateS s x m).leas.find? (leaIs x.shaper x.epoch x.id) = some { x with spent := m } := by
      rw [hl]
      have hx2 : ({ x with spent := m } : Lease) ∈ spendL x.id m s.leas := by
        unfold spendL
        exact List.mem_map.2 ⟨x, hx, by rw [if_pos rfl]⟩
      exact find_unique hx2 (by unfold leaIs; simp) (fun y hy hp => rising_eq hr2 hy hx2 (by unfold leaIs at hp; simp at hp; exact hp.1))
    rw [hf]
    simp only
    by_cases hv : v < m
    · rw [if_pos (.inl hv), show max m v = m by omega]; exact hag
    · rw [if_neg (by omega), show max m v = v by omega]
      have hsp : ∀ y ∈ spendL x.id m s.leas, y.id = x.id → y.spent ≤ v := fun y hy he => by
        unfold spendL at hy
        obtain ⟨z, hz, rfl⟩ := List.mem_map.1 hy
        by_cases hz2 : z.id = x.id
        · rw [if_pos hz2]; show m ≤ v; omega
        · rw [if_neg hz2] at he; exact absurd he hz2
      by_cases hv2 : v < x.size
      · rw [if_pos (by simp [hv2]), hl]
        have := swept_again (a := { s with leas := afterL x m s.leas }) (l := spendL x.id v (spendL x.id m s.leas)) p1 (fun id => by show _ ≤ outL (afterL x m s.leas) id; rw [e]; exact outL_spend id hsp)
        show sweptS { lateS s x m with leas := spendL x.id v (spendL x.id m s.leas) } = _
        unfold lateS at *
        rw [this, spend_spend]
        unfold afterL; rw [if_pos hv2]
      · rw [if_neg (by simp [hv2]), if_neg (by simp), hl]
        have hfit : Fits (spendL x.id m s.leas) := by rw [← hl]; exact leasOk_fits (stOk_parts hok).1 (stOk_parts hok).2.1
        have := swept_again (a := { s with leas := afterL x m s.leas }) (l := dropL x.id (spendL x.id m s.leas)) p1 (fun id => by show _ ≤ outL (afterL x m s.leas) id; rw [e]; exact outL_filter _ id hfit)
        show sweptS { lateS s x m with leas := dropL x.id (spendL x.id m s.leas) } = _
        unfold lateS at *
        rw [this, drop_spend]
        unfold afterL; rw [if_neg hv2]
  · have e : afterL x m s.leas = dropL x.id s.leas := by unfold afterL; rw [if_neg hm]
    rw [e] at hl
    have hf : (lateS s x m).leas.find? (leaIs x.shaper x.epoch x.id) = none := by
      rw [hl, List.find?_eq_none]
      intro y hy hp
      unfold dropL at hy
      have h5 := (List.mem_filter.1 hy).2
      unfold leaIs at hp
      simp at hp h5
      exact h5 hp.1
    rw [hf, show max m v = m by omega]
    exact hag
theorem credit_swept {s : St} {k : Int} (h : stOk s = true) (hk : 0 ≤ k) (hk2 : k ≤ 1099511627776) : creditS (sweptS s) k = creditS s k := by
  obtain ⟨h1, h2, h3, h4⟩ := stOk_parts h
  have hfit := leasOk_fits h1 h2
  unfold creditS
  rw [if_pos (swept_ok h), if_pos h]
  unfold sweptS
  simp only
  have e : sweepS ((sweepS s.tens (outsL s.leas)).map (credT s.leas k)) (outsL s.leas) = sweepS (s.tens.map (credT s.leas k)) (outsL s.leas) := by
    have g := tensOk_sub (q := fun x => !goneP (outsL s.leas) x) h1
    unfold sweepS
    rw [if_pos h1, if_pos (tensOk_cred g hk hk2 hfit), if_pos (tensOk_cred h1 hk hk2 hfit), List.filter_map, List.filter_map, List.filter_filter]
    congr 1
    refine List.filter_congr fun x _ => ?_
    have hg : goneP (outsL s.leas) (credT s.leas k x) = goneP (outsL s.leas) x := by
      unfold goneP
      rw [(credT_id _ _ _).1, (credT_id _ _ _).2.1]
    simp only [Function.comp, hg, Bool.and_self]
  rw [e]
def lateStep (x : Lease) (p : Int × St) (v : Int) : Int × St := if x.spent ≤ v ∧ v ≤ x.size then (max p.1 v, (reportS p.2 x.shaper x.epoch x.id v false).1) else p
def lateF (s : St) (x : Lease) (l : List Int) : Int × St := l.foldl (lateStep x) (x.spent, s)
def LateInv (s : St) (x : Lease) (p : Int × St) : Prop := (p = (x.spent, s)) ∨ (x.spent ≤ p.1 ∧ p.1 ≤ x.size ∧ p.2 = lateS s x p.1)
theorem late_inv {s : St} {x : Lease} (h : stOk s = true) (hx : x ∈ s.leas) (l : List Int) : LateInv s x (lateF s x l) := by
  have step : ∀ (p : Int × St) (v : Int), LateInv s x p → LateInv s x (lateStep x p v) := fun p v hp => by
    unfold lateStep
    by_cases hv : x.spent ≤ v ∧ v ≤ x.size
    · rw [if_pos hv]
      rcases hp with rfl | ⟨h1, h2, h3⟩
      · refine .inr ⟨by show x.spent ≤ max x.spent v; omega, by show max x.spent v ≤ _; omega, ?_⟩
        simp only
        rw [report_first h hx hv.1 hv.2, show max x.spent v = v by omega]
      · refine .inr ⟨by show x.spent ≤ max p.1 v; omega, by show max p.1 v ≤ _; omega, ?_⟩
        simp only
        rw [h3, late_step h hx h1 h2 hv.2]
    · rw [if_neg hv]; exact hp
  unfold lateF
  have : ∀ (l : List Int) (p : Int × St), LateInv s x p → LateInv s x (l.foldl (lateStep x) p) := fun l => by
    induction l with
    | nil => exact fun p hp => hp
    | cons v l ih => exact fun p hp => ih _ (step p v hp)
  exact this l _ (.inl rfl)
theorem spendL_length (le v : Int) (l : List Lease) : (spendL le v l).length = l.length := by unfold spendL; exact List.length_map _
theorem sweptS_lens (s : St) : (sweptS s).tens.length ≤ s.tens.length ∧ (sweptS s).leas = s.leas ∧ (sweptS s).sess = s.sess ∧ (sweptS s).dsks = s.dsks := ⟨sweepS_length _ _, rfl, rfl, rfl⟩
theorem afterL_length (x : Lease) (v : Int) (l : List Lease) : (afterL x v l).length ≤ l.length := by
  unfold afterL; split
  · rw [spendL_length]; exact Nat.le_refl _
  · exact List.length_filter_le _ _
/-- All that the walk asks of the state on the way. -/
theorem late_facts {s : St} {x : Lease} (h : stOk s = true) (hx : x ∈ s.leas) (l : List Int) : stOk (lateF s x l).2 = true ∧ (lateF s x l).2.tens.length ≤ s.tens.length ∧ (lateF s x l).2.leas.length ≤ s.leas.length ∧ (lateF s x l).2.sess = s.sess ∧ (lateF s x l).2.dsks = s.dsks ∧
    x.spent ≤ (lateF s x l).1 ∧ (lateF s x l).1 ≤ x.size := by
  have hsz := lea_parts (stOk_parts h).2.1 hx
  rcases late_inv h hx l with he | ⟨h1, h2, h3⟩
  · rw [he]; exact ⟨h, Nat.le_refl _, Nat.le_refl _, rfl, rfl, Int.le_refl _, by show x.spent ≤ _; omega⟩
  · refine ⟨?_, ?_, ?_, by rw [h3]; rfl, by rw [h3]; rfl, h1, h2⟩
    · have := (report_ok h x.shaper x.epoch x.id (lateF s x l).1 false).1
      rw [report_first h hx h1 h2] at this; rw [h3]; exact this
    · rw [h3]; exact sweepS_length _ _
    · rw [h3]; exact afterL_length _ _ _
/-- What stands at the end. -/
theorem late_end {s : St} {x : Lease} (h : stOk s = true) (hx : x ∈ s.leas) (l : List Int) : reportS s x.shaper x.epoch x.id (lateF s x l).1 false = (lateS s x (lateF s x l).1, 0) ∧ creditS (lateF s x l).2 0 = creditS (lateS s x (lateF s x l).1) 0 := by
  have hsz := lea_parts (stOk_parts h).2.1 hx
  obtain ⟨-, -, -, -, -, f6, f7⟩ := late_facts h hx l
  refine ⟨report_first h hx f6 f7, ?_⟩
  rcases late_inv h hx l with he | ⟨h1, h2, h3⟩
  · rw [he]
    simp only
    have : lateS s x x.spent = sweptS s := by
      unfold lateS afterL
      rw [if_pos (by omega), spend_self (leasOk_rising (stOk_parts h).2.1) hx]
    rw [this, credit_swept h (by decide) (by decide)]
  · rw [h3]
theorem lateF_take {s : St} {x : Lease} {l : List Int} {k : Nat} (hk : k < l.length) : lateF s x (l.take (k + 1)) = lateStep x (lateF s x (l.take k)) l[k] := by
  unfold lateF
  rw [List.take_succ_eq_append_getElem hk, List.foldl_append]; rfl
theorem findSt_mem {s : St} {le : Int} {x : Lease} (h : findSt s le = (x, true)) : stOk s = true ∧ x ∈ s.leas ∧ x.id = le := by
  unfold findSt at h
  by_cases hok : stOk s = true
  · rw [if_pos hok] at h
    cases hf : findLea s le with
    | none => rw [hf] at h; simp at h
    | some y =>
      rw [hf] at h
      simp only [Prod.mk.injEq, and_true] at h
      subst h
      exact ⟨hok, findK_mem hf⟩
  · rw [if_neg hok] at h; simp at h
end Go.Proofs.Ytoofmofaimdhpaa

/- What LedgerCap asks of a grant, a report, an expiry and a credit together. Plain mathematics. -/
namespace Go.Proofs.Ytoofmofaimdhpaa

def sumS (s : St) (id : Int) : Int := buck s.tens id + 1000 * outL s.leas id
theorem grant_lens (s : St) (sh ep nu te sz : Int) : (grantS s sh ep nu te sz).1.tens.length ≤ s.tens.length + 1 ∧ (grantS s sh ep nu te sz).1.leas.length ≤ s.leas.length + 1 := by
  have hs : ∀ a : St, a.tens.length ≤ s.tens.length + 1 → a.leas.length ≤ s.leas.length + 1 → (sweptS a).tens.length ≤ s.tens.length + 1 ∧ (sweptS a).leas.length ≤ s.leas.length + 1 := fun a h1 h2 => ⟨Nat.le_trans (sweepS_length _ _) h1, h2⟩
  unfold grantS
  split
  · exact ⟨by simp, by simp⟩
  · split
    · exact hs s (by omega) (by omega)
    · split
      · exact hs s (by omega) (by omega)
      · split
        · exact hs s (by omega) (by omega)
        · split
          · exact hs s (by omega) (by omega)
          · refine hs _ ?_ (by simp)
            show (setS _ _).1.length ≤ _
            unfold setS
            split
            · exact withL_length _ _
            · simp
theorem report_lens (s : St) (sh ep le sp : Int) (cl : Bool) : (reportS s sh ep le sp cl).1.tens.length ≤ s.tens.length + 1 ∧ (reportS s sh ep le sp cl).1.leas.length ≤ s.leas.length := by
  have hs : ∀ a : St, a.tens.length ≤ s.tens.length + 1 → a.leas.length ≤ s.leas.length → (sweptS a).tens.length ≤ s.tens.length + 1 ∧ (sweptS a).leas.length ≤ s.leas.length := fun a h1 h2 => ⟨Nat.le_trans (sweepS_length _ _) h1, h2⟩
  unfold reportS
  split
  · exact ⟨by simp, by simp⟩
  · split
    · exact hs s (by omega) (Nat.le_refl _)
    · split
      · exact hs s (by omega) (Nat.le_refl _)
      · split
        · exact hs _ (by simp) (by rw [spendL_length]; exact Nat.le_refl _)
        · refine hs _ ?_ (List.length_filter_le _ _)
          simp only
          split
          · unfold setS
            split
            · exact withL_length _ _
            · simp
          · omega
theorem expire_lens (s : St) (l : List Int) : (expireS s l).tens.length ≤ s.tens.length ∧ (expireS s l).leas.length ≤ s.leas.length := by
  unfold expireS
  split
  · exact ⟨sweepS_length _ _, List.length_filter_le _ _⟩
  · exact ⟨Nat.le_refl _, Nat.le_refl _⟩
theorem credit_lens (s : St) (k : Int) : (creditS s k).tens.length ≤ s.tens.length ∧ (creditS s k).leas.length ≤ s.leas.length := by
  unfold creditS
  split
  · refine ⟨?_, Nat.le_refl _⟩
    have := sweepS_length (s.tens.map (credT s.leas k)) (outsL s.leas)
    rw [List.length_map] at this
    exact this
  · exact ⟨Nat.le_refl _, Nat.le_refl _⟩
theorem rate_range {ts : List Tenant} (h : tensOk 0 ts = true) (id : Int) : 0 ≤ (findT ts id).1.rate ∧ (findT ts id).1.rate ≤ 1000000 := by
  rw [findT_eq id h]
  cases hf : findO ts id with
  | none => simp [zeroT]
  | some x =>
    have := may_parts (okT_parts ((tensOk_iff.1 h).1 x (findO_mem hf).1).2).2.1
    exact ⟨this.1, this.2.1⟩
theorem sum_range {s : St} (h : stOk s = true) (id : Int) : 0 ≤ sumS s id ∧ sumS s id ≤ 1000000000 + 64000000000 := by
  obtain ⟨h1, h2, h3, h4⟩ := stOk_parts h
  have hor := outL_range id (leasOk_fits h1 h2)
  have hb : 0 ≤ buck s.tens id ∧ buck s.tens id ≤ 1000000000 := by
    unfold buck
    rw [findT_eq id h1]
    cases hf : findO s.tens id with
    | none => simp [zeroT]
    | some x =>
      have := okT_parts ((tensOk_iff.1 h1).1 x (findO_mem hf).1).2
      exact ⟨this.2.2.1, this.2.2.2.1⟩
  unfold sumS
  have : (s.leas.length : Int) ≤ 64 := by omega
  omega
/-- A tenant's sums, as the walk compares them. -/
theorem cap_sums {s : St} (h : stOk s = true) (sh ep nu te sz le sp : Int) (cl : Bool) (l : List Int) (k : Int) (hk : 0 ≤ k) (hk2 : k ≤ 1048576) (id : Int) :
    sumS (grantS s sh ep nu te sz).1 id = sumS s id ∧ sumS (reportS s sh ep le sp cl).1 id ≤ sumS s id ∧ sumS (expireS s l) id ≤ sumS s id ∧ sumS (creditS s k) id ≤ sumS s id + (findT s.tens id).1.rate * k ∧
    0 ≤ (findT s.tens id).1.rate * k ∧ (findT s.tens id).1.rate * k ≤ 1048576000000 := by
  have h1 := (stOk_parts h).1
  have hr := rate_range h1 id
  have hc := credit_ok h k hk (by omega)
  have hp := Int.mul_nonneg hr.1 hk
  have hp2 := Int.mul_le_mul hr.2 hk2 hk (by decide : (0 : Int) ≤ 1000000)
  refine ⟨(grant_ok h sh ep nu te sz).2.1 id, (report_ok h sh ep le sp cl).2 id, (expire_ok h l).2 id, ?_, hp, hp2⟩
  have h3 := hc.2.2 id
  have h4 := hc.2.1
  unfold sumS
  rw [h4]
  omega
end Go.Proofs.Ytoofmofaimdhpaa

/- weirlaw18's sum: a tenant's bucket and what is out. -/
namespace Go.Proofs.Ytoofmofaimdhpaa
open Go.ChangeShapes Go.WideShapes Go.ChangeAt Go.RowKit
set_option maxRecDepth 100000

set_option maxHeartbeats 8000000 in
theorem sum_st (s : St) (r : Raw) (te : Int) (w : World) (h : StAt w 0 r s) (hok : stOk s = true) (hl1 : s.tens.length ≤ 900) (hl2 : s.leas.length ≤ 900) :
    Calls Try.prog 27 #[r.agg, .int .i64 te] w fun e w' => e = .returned (.int .i64 (sumS s te)) ∧ Below w.heap.size w w' := by
  unfold sumS
  obtain ⟨h1, h2, h3, h4⟩ := stOk_parts hok
  have hfit := leasOk_fits h1 h2
  have hor := outL_range te hfit
  have hbk : 0 ≤ buck s.tens te ∧ buck s.tens te ≤ 1000000000 := by
    unfold buck
    cases hf : (findT s.tens te).2 with
    | true => exact findT_ten h1 (show findT s.tens te = ((findT s.tens te).1, true) by rw [← hf])
    | false =>
      rw [findT_eq te h1] at hf ⊢
      cases hfo : findO s.tens te with
      | none => simp [zeroT]
      | some y => rw [hfo] at hf; simp at hf
  have HPF := Lib.hid (fun w' (hb : Below w.heap.size w w') => reffind_any s.tens r.ten.a r.ten.n r.ten.c te w' h.ten.len (le_maxLen (by omega)) (Row.below h.trow hb))
  have HRO := Lib.hid (fun w' (hb : Below w.heap.size w w') => refout_any s.leas r te w' h.lea.len (by omega) hfit (h.lea.row.below hb))
  unfold buck at hbk ⊢
  rcases hf : findT s.tens te with ⟨⟨fid, frate, fburst, fbucket, fgone⟩, ok⟩
  have HFD := Lib.hid hf
  rw [hf] at hbk
  generalize outL s.leas te = o at *
  obtain ⟨term, stamp, next, ⟨a1, n1, c1⟩, ⟨a2, n2, c2⟩, ⟨a3, n3, c3⟩, ⟨a4, n4, c4⟩⟩ := r
  have hw1 : IntKind.i64.wrap (1000 * o) = 1000 * o := IntWalk.i64_in _ ⟨by omega, by omega⟩
  have hw2 : IntKind.i64.wrap (fbucket + 1000 * o) = fbucket + 1000 * o := IntWalk.i64_in _ ⟨by simp only at hbk; omega, by simp only at hbk; omega⟩
  have HW1 := Lib.hid hw1
  have HW2 := Lib.hid hw2
  have HBX : Hid (∀ w', Below (w.alloc (.cells #[.int .i64 term, .int .i64 stamp, .int .i64 next, .slice a1 n1 c1, .slice a2 n2 c2, .slice a3 n3 c3, .slice a4 n4 c4] 27)).heap.size (w.alloc (.cells #[.int .i64 term, .int .i64 stamp, .int .i64 next, .slice a1 n1 c1, .slice a2 n2 c2, .slice a3 n3 c3, .slice a4 n4 c4] 27)) w' → Box w' w.heap.size (Raw.cells ⟨term, stamp, next, ⟨a1, n1, c1⟩, ⟨a2, n2, c2⟩, ⟨a3, n3, c3⟩, ⟨a4, n4, c4⟩⟩)) := fun w' hb => Box.of_alloc hb
  clear h hok hl1 hl2 h1 h2 h3 h4 hfit hor hbk hf hw1 hw2
  go_enter Try.func27, Try.ntmps27
  go_upto_region 2 with (first
      | (have hgq := HB3; clear hgq; refine wpList_store_box layTen rfl (.tmp 5) (.tmp 12) rfl ⟨fid, frate, fburst, fbucket, fgone⟩ rfl rfl rfl ?_; intro w4 hw4 ht4 hb4 hs4; have HT4 : Hid (Box w4 w3.heap.size (Tenant.cells ⟨fid, frate, fburst, fbucket, fgone⟩)) := ⟨hw4, ht4⟩; have HX4 := Lib.hid (HX3.out.next (show 0 < 7 by decide) hb4); have HB4 := Lib.hid (below_on HB3.out hb4); clear hw4 ht4 hs4)
      | (go_at_call 26; ((with_reducible refine (HPF.out _ (by repeat' (first | (with_reducible exact Below.refl _ _) | (with_reducible assumption) | (with_reducible refine Below.drew ?_) | (with_reducible refine Below.more ?_ _) | (with_reducible refine Below.put ?_ ?_ _) | (with_reducible refine Below.next ?_ (by with_reducible assumption)) | (with_reducible exact Nat.le_refl _) | (with_reducible refine Below.size' ?_) | omega))).mono ?_); rw [HFD.out]; rintro e w3 ⟨rfl, hb3⟩; have HX3 := Lib.hid (HBX.out w3 (by repeat' (first | (with_reducible exact Below.refl _ _) | (with_reducible assumption) | (with_reducible refine Below.drew ?_) | (with_reducible refine Below.more ?_ _) | (with_reducible refine Below.put ?_ ?_ _) | (with_reducible refine Below.next ?_ (by with_reducible assumption)) | (with_reducible exact Nat.le_refl _) | (with_reducible refine Below.size' ?_) | omega))); have hb3' : Below w.heap.size w w3 := (by repeat' (first | (with_reducible exact Below.refl _ _) | (with_reducible assumption) | (with_reducible refine Below.drew ?_) | (with_reducible refine Below.more ?_ _) | (with_reducible refine Below.put ?_ ?_ _) | (with_reducible refine Below.next ?_ (by with_reducible assumption)) | (with_reducible exact Nat.le_refl _) | (with_reducible refine Below.size' ?_) | omega)); have HB3 := Lib.hid hb3'; clear hb3')))
  have HK : Hid (∀ w', Box w' w.heap.size (Raw.cells ⟨term, stamp, next, ⟨a1, n1, c1⟩, ⟨a2, n2, c2⟩, ⟨a3, n3, c3⟩, ⟨a4, n4, c4⟩⟩) → Box w' w3.heap.size (Tenant.cells ⟨fid, frate, fburst, fbucket, fgone⟩) → (w'.cell? ⟨w.heap.size, 0, none⟩ = some (.int .i64 term) ∧ w'.cell? ⟨w.heap.size, 1, none⟩ = some (.int .i64 stamp) ∧ w'.cell? ⟨w.heap.size, 2, none⟩ = some (.int .i64 next) ∧ w'.cell? ⟨w.heap.size, 3, none⟩ = some (.slice a1 n1 c1) ∧ w'.cell? ⟨w.heap.size, 4, none⟩ = some (.slice a2 n2 c2) ∧ w'.cell? ⟨w.heap.size, 5, none⟩ = some (.slice a3 n3 c3) ∧ w'.cell? ⟨w.heap.size, 6, none⟩ = some (.slice a4 n4 c4) ∧ w'.cell? ⟨w3.heap.size, 3, none⟩ = some (.int .i64 fbucket))) := fun w' b c => ⟨b.cell (j := 0) rfl, b.cell (j := 1) rfl, b.cell (j := 2) rfl, b.cell (j := 3) rfl, b.cell (j := 4) rfl, b.cell (j := 5) rfl, b.cell (j := 6) rfl, c.cell (j := 3) rfl⟩
  have hw1 := HW1.out
  have hw2 := HW2.out
  refine wp_region_held_drew (S := (fun w' => (w'.cell? ⟨w.heap.size, 0, none⟩ = some (.int .i64 term) ∧ w'.cell? ⟨w.heap.size, 1, none⟩ = some (.int .i64 stamp) ∧ w'.cell? ⟨w.heap.size, 2, none⟩ = some (.int .i64 next) ∧ w'.cell? ⟨w.heap.size, 3, none⟩ = some (.slice a1 n1 c1) ∧ w'.cell? ⟨w.heap.size, 4, none⟩ = some (.slice a2 n2 c2) ∧ w'.cell? ⟨w.heap.size, 5, none⟩ = some (.slice a3 n3 c3) ∧ w'.cell? ⟨w.heap.size, 6, none⟩ = some (.slice a4 n4 c4) ∧ w'.cell? ⟨w3.heap.size, 3, none⟩ = some (.int .i64 fbucket)))) (by kernel_rfl) (HK.out _ HX4.out.drew HT4.out.drew) (fun hHeld => ?_)
  refine wpAnyH_take (i := 0) (oi := _) (v := ?v0_1) rfl (by kernel_rfl) (by kernel_rfl) (by kernel_rfl) (fun _ _ _ h => h) (Or.inl ⟨by rfl, ?hy0_1⟩) (by assumption) ?rest0_1
  case hy0_1 =>
    intro w hSw
    (try dsimp only at hSw)
    go_simp
    rfl
  case' rest0_1 => try simp only [Act.put, List.setIfInBounds_toArray, List.set_cons_zero, List.set_cons_succ, List.getElem_toArray, List.getElem_cons_zero, List.getElem_cons_succ]
  refine wpAnyH_take (i := 1) (oi := _) (v := ?v1_2) rfl (by kernel_rfl) (by kernel_rfl) (by kernel_rfl) (fun _ _ _ h => h) (Or.inl ⟨by rfl, ?hy1_2⟩) (by assumption) ?rest1_2
  case hy1_2 =>
    intro w hSw
    (try dsimp only at hSw)
    go_simp
    rfl
  case' rest1_2 => try simp only [Act.put, List.setIfInBounds_toArray, List.set_cons_zero, List.set_cons_succ, List.getElem_toArray, List.getElem_cons_zero, List.getElem_cons_succ]
  refine wpAnyH_take (i := 2) (oi := _) (v := ?v2_3) rfl (by kernel_rfl) (by kernel_rfl) (by kernel_rfl) (fun _ _ _ h => h) (Or.inl ⟨by rfl, ?hy2_3⟩) (by assumption) ?rest2_3
  case hy2_3 =>
    intro w hSw
    (try dsimp only at hSw)
    go_simp
    rfl
  case' rest2_3 => try simp only [Act.put, List.setIfInBounds_toArray, List.set_cons_zero, List.set_cons_succ, List.getElem_toArray, List.getElem_cons_zero, List.getElem_cons_succ]
  refine wpAnyH_take (i := 3) (oi := _) (v := ?v3_4) rfl (by kernel_rfl) (by kernel_rfl) (by kernel_rfl) (fun _ _ _ h => h) (Or.inl ⟨by rfl, ?hy3_4⟩) (by assumption) ?rest3_4
  case hy3_4 =>
    intro w hSw
    (try dsimp only at hSw)
    go_simp
    rfl
  case' rest3_4 => try simp only [Act.put, List.setIfInBounds_toArray, List.set_cons_zero, List.set_cons_succ, List.getElem_toArray, List.getElem_cons_zero, List.getElem_cons_succ]
  refine wpAnyH_ready (rs := [4]) (by kernel_rfl) (by simp) ?_
  refine AllReadyH.cons (o := _) rfl (fun K hK => ?_) AllReadyH.nil
  go_simp
  go_at_call 18
  with_reducible refine (HRO.out w4.drew HB4.out.drew).mono ?_
  rintro e w5 ⟨rfl, hb5a⟩
  have hb5 : Below w4.heap.size w4 w5 := ⟨hb5a.os, hb5a.tape, hb5a.output, hb5a.size, hb5a.block⟩
  clear hb5a
  have HB5 := Lib.hid (below_on HB4.out hb5)
  have HX5 := Lib.hid (HX4.out.next (show 0 < 7 by decide) hb5)
  have HT5 := Lib.hid (HT4.out.next (show 0 < 5 by decide) hb5)
  clear hHeld
  refine hK.out _ _ (HK.out _ HX5.out HT5.out) (fun hHeld => ?_)
  clear hK K
  try simp only [Act.put, List.setIfInBounds_toArray, List.set_cons_zero, List.set_cons_succ, List.getElem_toArray, List.getElem_cons_zero, List.getElem_cons_succ]
  refine wpAnyH_take (i := 5) (oi := _) (v := ?v5_5) rfl (by kernel_rfl) (by kernel_rfl) (by kernel_rfl) (fun _ _ _ h => h) (Or.inl ⟨by rfl, ?hy5_5⟩) (by assumption) ?rest5_5
  case hy5_5 =>
    intro w hSw
    (try dsimp only at hSw)
    go_simp
    rfl
  case' rest5_5 => try simp only [Act.put, List.setIfInBounds_toArray, List.set_cons_zero, List.set_cons_succ, List.getElem_toArray, List.getElem_cons_zero, List.getElem_cons_succ]
  refine wpAnyH_take (i := 6) (oi := _) (v := ?v6_6) rfl (by kernel_rfl) (by kernel_rfl) (by kernel_rfl) (fun _ _ _ h => h) (Or.inl ⟨by rfl, ?hy6_6⟩) (by assumption) ?rest6_6
  case hy6_6 =>
    intro w hSw
    (try dsimp only at hSw)
    go_simp
    rfl
  case' rest6_6 => try simp only [Act.put, List.setIfInBounds_toArray, List.set_cons_zero, List.set_cons_succ, List.getElem_toArray, List.getElem_cons_zero, List.getElem_cons_succ]
  refine wpAnyH_take (i := 7) (oi := _) (v := ?v7_7) rfl (by kernel_rfl) (by kernel_rfl) (by kernel_rfl) (fun _ _ _ h => h) (Or.inl ⟨by rfl, ?hy7_7⟩) (by assumption) ?rest7_7
  case hy7_7 =>
    intro w hSw
    (try dsimp only at hSw)
    go_simp
    rfl
  case' rest7_7 => try simp only [Act.put, List.setIfInBounds_toArray, List.set_cons_zero, List.set_cons_succ, List.getElem_toArray, List.getElem_cons_zero, List.getElem_cons_succ]
  refine wpAnyH_done (by kernel_rfl) ?_ _
  clear hHeld
  go_wp2_with fail
  go_returns
  exact ⟨rfl, HB5.out⟩
end Go.Proofs.Ytoofmofaimdhpaa

namespace Go.Proofs.Ytoofmofaimdhpaa
open Go.ChangeShapes Go.WideShapes Go.ChangeAt Go.RowKit
set_option maxRecDepth 100000

theorem teq_run (t u : Tenant) (w : World) : (Op.equalIn 10000 55 t.agg u.agg).run Try.prog w = .ok (decide (t = u)) w := by
  obtain ⟨t0, t1, t2, t3, t4⟩ := t
  obtain ⟨u0, u1, u2, u3, u4⟩ := u
  have hp : Try.prog.stoodInHeld 55 = false := by kernel_rfl
  have hi := fun (d : Nat) (a b : Int) (w : World) => run_equalIn_int (P := Try.prog) w d 3 .i64 .i64 a b Try.underlying3
  have hb := fun (d : Nat) (a b : Bool) (w : World) => run_equalIn_bool' (P := Try.prog) w d 4 a b Try.underlying4
  simp [go_sem, hp, hi, hb]
  by_cases e0 : t0 = u0 <;> by_cases e1 : t1 = u1 <;> by_cases e2 : t2 = u2 <;> by_cases e3 : t3 = u3 <;> by_cases e4 : t4 = u4 <;> simp [e0, e1, e2, e3, e4]
theorem tneq_run (t u : Tenant) (w : World) : (binOp .neq 55 t.agg u.agg).run Try.prog w = .ok (.bool (!decide (t = u))) w := by
  rw [run_neq_struct, teq_run]; rfl
set_option maxHeartbeats 1000000 in
theorem same_any (ts us : List Tenant) (a b : Option Addr) (n c m d : Nat) (w : World) (hn : ts.length = n) (hm : us.length = m) (hl : ts.length ≤ maxLen) (hl2 : us.length ≤ maxLen) (hr : TRow w a ts) (hs : TRow w b us) :
    Calls Try.prog 40 #[.slice a n c, .slice b m d] w fun e w' => e = .returned (.bool (decide (ts = us))) ∧ Below w.heap.size w w' := by
  subst hn; subst hm
  have hl3 := lt_maxLen hl
  have hl4 := lt_maxLen hl2
  by_cases hlen : ts.length = us.length
  · have HLEN := Lib.hid hlen
    rw [hlen]
    clear hlen hl hl2 hl3
    have HNEQ := Lib.hid tneq_run
    go_enter Try.func40, Try.ntmps40
    go_wp2
    go_loopw [5] (fun i wr => ∃ k : Nat, k ≤ us.length ∧ i = .int .i64 k ∧ ts.take k = us.take k ∧ Below w.heap.size w wr) (fun i _ => us.length - (intOf i).toNat)
    case atStart => exact ⟨0, by omega, rfl, rfl, Below.refl _ _⟩
    case round =>
      obtain ⟨k, hk, rfl, htk, hb⟩ := hrel
      have HTK := Lib.hid htk
      clear htk
      by_cases hlt : k < us.length
      · have hlt2 : k < ts.length := by rw [HLEN.out]; exact hlt
        obtain ⟨b1, o1, rfl, hcs⟩ := hr.at hlt2
        obtain ⟨h0, h1, h2, h3, h4⟩ := hcs _ hb
        obtain ⟨b2, o2, rfl, hds⟩ := hs.at hlt
        obtain ⟨g0, g1, g2, g3, g4⟩ := hds _ hb
        clear hcs hds
        have hneq := fun w => HNEQ.out ts[k] us[k] w
        cases he : decide (ts[k] = us[k]) with
        | true =>
          have HE := Lib.hid (of_decide_eq_true he)
          rw [he] at hneq
          clear he
          go_wp2
          go_quiet (fail)
          go_wp2
          go_roundw
          case rel => exact ⟨k + 1, by omega, by go_num, by rw [List.take_succ_eq_append_getElem hlt2, List.take_succ_eq_append_getElem hlt, HTK.out, HE.out], below_drewN hb _⟩
          case measure => simp [intOf]; omega
        | false =>
          have HE := Lib.hid (of_decide_eq_false he)
          rw [he] at hneq
          clear he
          go_wp2
          go_quiet (fail)
          go_wp2
          go_returns
          exact ⟨ret_bool (decide_eq_false (fun h => HE.out (by subst h; rfl))).symm, below_drewN hb _⟩
      · go_wp2
        go_returns
        have h := HTK.out
        rw [List.take_of_length_le (by rw [HLEN.out]; omega), List.take_of_length_le (by omega)] at h
        exact ⟨ret_bool (decide_eq_true h).symm, hb⟩
  · have hne : ((ts.length : Int) != (us.length : Int)) = true := by simp; omega
    have HD : Hid (decide (ts = us) = false) := decide_eq_false (fun h => hlen (by rw [h]))
    generalize decide (ts = us) = res at HD ⊢
    have hlen2 : ¬ ts.length = us.length := hlen
    clear hlen
    go_enter Try.func40, Try.ntmps40
    go_wp2
    go_returns
    exact ⟨ret_bool HD.out.symm, Below.refl _ _⟩
end Go.Proofs.Ytoofmofaimdhpaa

namespace Go.Proofs.Ytoofmofaimdhpaa
open Go.ChangeShapes Go.WideShapes Go.ChangeAt Go.RowKit
set_option maxRecDepth 100000

set_option maxHeartbeats 8000000 in
/-- Two states that read alike are the same. -/
theorem same_st (s : St) (r q : Raw) (B B' : Nat) (w : World) (h : StAt w B r s) (h' : StAt w B' q s) (hl1 : s.tens.length ≤ 900) (hl2 : s.leas.length ≤ 900) (hl3 : s.sess.length ≤ 900) (hl4 : s.dsks.length ≤ 900) :
    Calls Try.prog 13 #[r.agg, q.agg] w fun e w' => e = .returned (.bool true) ∧ Below w.heap.size w w' := by
  obtain ⟨term, stamp, next, ⟨a1, n1, c1⟩, ⟨a2, n2, c2⟩, ⟨a3, n3, c3⟩, ⟨a4, n4, c4⟩⟩ := r
  obtain ⟨term', stamp', next', ⟨b1, m1, d1⟩, ⟨b2, m2, d2⟩, ⟨b3, m3, d3⟩, ⟨b4, m4, d4⟩⟩ := q
  have e1 : term = term' := h.term.trans h'.term.symm
  have e2 : stamp = stamp' := h.stamp.trans h'.stamp.symm
  have e3 : next = next' := h.next.trans h'.next.symm
  subst e1 e2 e3
  obtain rfl : s.tens.length = n1 := h.ten.len
  obtain rfl : s.leas.length = n2 := h.lea.len
  obtain rfl : s.sess.length = n3 := h.ses.len
  obtain rfl : s.dsks.length = n4 := h.dsk.len
  obtain rfl : s.tens.length = m1 := h'.ten.len
  obtain rfl : s.leas.length = m2 := h'.lea.len
  obtain rfl : s.sess.length = m3 := h'.ses.len
  obtain rfl : s.dsks.length = m4 := h'.dsk.len
  have hm := le_maxLen (show s.tens.length ≤ 1048576 by omega)
  have HSM := Lib.hid (fun w' (hb : Below w.heap.size w w') => same_any s.tens s.tens a1 b1 s.tens.length c1 s.tens.length d1 w' rfl rfl hm hm (Row.below h.trow hb) (Row.below h'.trow hb))
  have RL := Lib.hid (And.intro h.lea.row h'.lea.row)
  have RS := Lib.hid (And.intro h.ses.row h'.ses.row)
  have RD := Lib.hid (And.intro h.dsk.row h'.dsk.row)
  have NL := Lib.hid neqLea_run
  have NS := Lib.hid neqSes_run
  have ND := Lib.hid neqDsk_run
  clear h h'
  have HBX : Hid (∀ w', Below (w.heap.size + 2) ((w.alloc (.cells #[.int .i64 term, .int .i64 stamp, .int .i64 next, .slice a1 s.tens.length c1, .slice a2 s.leas.length c2, .slice a3 s.sess.length c3, .slice a4 s.dsks.length c4] 27)).alloc (.cells #[.int .i64 term, .int .i64 stamp, .int .i64 next, .slice b1 s.tens.length d1, .slice b2 s.leas.length d2, .slice b3 s.sess.length d3, .slice b4 s.dsks.length d4] 27)) w' → Box w' w.heap.size (Raw.cells ⟨term, stamp, next, ⟨a1, s.tens.length, c1⟩, ⟨a2, s.leas.length, c2⟩, ⟨a3, s.sess.length, c3⟩, ⟨a4, s.dsks.length, c4⟩⟩) ∧ Box w' (w.heap.size + 1) (Raw.cells ⟨term, stamp, next, ⟨b1, s.tens.length, d1⟩, ⟨b2, s.leas.length, d2⟩, ⟨b3, s.sess.length, d3⟩, ⟨b4, s.dsks.length, d4⟩⟩)) := fun w' hb0 => by
    have e : ((w.alloc (.cells #[.int .i64 term, .int .i64 stamp, .int .i64 next, .slice a1 s.tens.length c1, .slice a2 s.leas.length c2, .slice a3 s.sess.length c3, .slice a4 s.dsks.length c4] 27)).alloc (.cells #[.int .i64 term, .int .i64 stamp, .int .i64 next, .slice b1 s.tens.length d1, .slice b2 s.leas.length d2, .slice b3 s.sess.length d3, .slice b4 s.dsks.length d4] 27)).heap.size = w.heap.size + 2 := by simp
    rw [← e] at hb0
    exact ⟨Box.of_alloc (mid_alloc' hb0), Box.of_alloc1 hb0⟩
  have hbw : Below w.heap.size w ((w.alloc (.cells #[.int .i64 term, .int .i64 stamp, .int .i64 next, .slice a1 s.tens.length c1, .slice a2 s.leas.length c2, .slice a3 s.sess.length c3, .slice a4 s.dsks.length c4] 27)).alloc (.cells #[.int .i64 term, .int .i64 stamp, .int .i64 next, .slice b1 s.tens.length d1, .slice b2 s.leas.length d2, .slice b3 s.sess.length d3, .slice b4 s.dsks.length d4] 27)) := (by repeat' (first | (with_reducible exact Below.refl _ _) | (with_reducible assumption) | (with_reducible refine Below.drew ?_) | (with_reducible refine Below.more ?_ _) | (with_reducible refine Below.put ?_ ?_ _) | (with_reducible refine Below.next ?_ (by with_reducible assumption)) | (with_reducible exact Nat.le_refl _) | (with_reducible refine Below.size' ?_) | omega))
  have BW := Lib.hid hbw
  clear hbw
  go_enter Try.func13, Try.ntmps13
  go_wp2_with (go_at_call 40; ((with_reducible refine (HSM.out _ (by repeat' (first | (with_reducible exact Below.refl _ _) | (with_reducible assumption) | (with_reducible refine Below.drew ?_) | (with_reducible refine Below.more ?_ _) | (with_reducible refine Below.put ?_ ?_ _) | (with_reducible refine Below.next ?_ (by with_reducible assumption)) | (with_reducible exact Nat.le_refl _) | (with_reducible refine Below.size' ?_) | omega))).mono ?_); rw [decide_eq_true (rfl : s.tens = s.tens)]; rintro e w3 ⟨rfl, hb3⟩; have HB3 : Hid (Below (w.heap.size + 2) ((w.alloc (.cells #[.int .i64 term, .int .i64 stamp, .int .i64 next, .slice a1 s.tens.length c1, .slice a2 s.leas.length c2, .slice a3 s.sess.length c3, .slice a4 s.dsks.length c4] 27)).alloc (.cells #[.int .i64 term, .int .i64 stamp, .int .i64 next, .slice b1 s.tens.length d1, .slice b2 s.leas.length d2, .slice b3 s.sess.length d3, .slice b4 s.dsks.length d4] 27)) w3) := (show Below (w.heap.size + 2) ((w.alloc (.cells #[.int .i64 term, .int .i64 stamp, .int .i64 next, .slice a1 s.tens.length c1, .slice a2 s.leas.length c2, .slice a3 s.sess.length c3, .slice a4 s.dsks.length c4] 27)).alloc (.cells #[.int .i64 term, .int .i64 stamp, .int .i64 next, .slice b1 s.tens.length d1, .slice b2 s.leas.length d2, .slice b3 s.sess.length d3, .slice b4 s.dsks.length d4] 27)) w3 from (Below.mono hb3 (by simp))); clear hb3))
  go_loopw [5] (fun i wr => ∃ k : Nat, k ≤ s.leas.length ∧ i = .int .i64 k ∧ Below (w.heap.size + 2) ((w.alloc (.cells #[.int .i64 term, .int .i64 stamp, .int .i64 next, .slice a1 s.tens.length c1, .slice a2 s.leas.length c2, .slice a3 s.sess.length c3, .slice a4 s.dsks.length c4] 27)).alloc (.cells #[.int .i64 term, .int .i64 stamp, .int .i64 next, .slice b1 s.tens.length d1, .slice b2 s.leas.length d2, .slice b3 s.sess.length d3, .slice b4 s.dsks.length d4] 27)) wr) (fun i _ => s.leas.length - (intOf i).toNat)
  case atStart => exact ⟨0, by omega, rfl, HB3.out⟩
  case round =>
    obtain ⟨k, hk, rfl, hb0⟩ := hrel
    have hb : Below w.heap.size w wr := BW.out.trans (hb0.mono (by omega))
    have HB0 := Lib.hid hb0
    obtain ⟨hxa, hxb⟩ := HBX.out wr hb0
    have p4 := hxa.cell (j := 4) rfl
    have q4 := hxb.cell (j := 4) rfl
    clear hxa hxb
    by_cases hlt : k < s.leas.length
    · obtain ⟨b, o, ha, hcs⟩ := atLea RL.out.1 hlt
      obtain ⟨b', o', ha', hcs'⟩ := atLea RL.out.2 hlt
      subst ha
      subst ha'
      have hx := hcs _ hb
      have hy := hcs' _ hb
      have hneq := fun w => NL.out s.leas[k] s.leas[k] w
      rw [decide_eq_true rfl] at hneq
      generalize s.leas[k] = x at hx hy hneq
      clear hcs hcs'
      go_wp2
      go_quiet (fail)
      go_wp2
      go_roundw
      case rel => exact ⟨k + 1, by omega, by go_num, below_drewN HB0.out _⟩
      case measure => simp [intOf]; omega
    · obtain rfl : k = s.leas.length := by omega
      skip
      go_wp2
      go_loopw [6] (fun i wr => ∃ k : Nat, k ≤ s.sess.length ∧ i = .int .i64 k ∧ Below (w.heap.size + 2) ((w.alloc (.cells #[.int .i64 term, .int .i64 stamp, .int .i64 next, .slice a1 s.tens.length c1, .slice a2 s.leas.length c2, .slice a3 s.sess.length c3, .slice a4 s.dsks.length c4] 27)).alloc (.cells #[.int .i64 term, .int .i64 stamp, .int .i64 next, .slice b1 s.tens.length d1, .slice b2 s.leas.length d2, .slice b3 s.sess.length d3, .slice b4 s.dsks.length d4] 27)) wr) (fun i _ => s.sess.length - (intOf i).toNat)
      case atStart => exact ⟨0, by omega, rfl, HB0.out⟩
      case round =>
        obtain ⟨k, hk, rfl, hb0⟩ := hrel
        have hb : Below w.heap.size w wr := BW.out.trans (hb0.mono (by omega))
        have HB0 := Lib.hid hb0
        obtain ⟨hxa, hxb⟩ := HBX.out wr hb0
        have p5 := hxa.cell (j := 5) rfl
        have q5 := hxb.cell (j := 5) rfl
        clear hxa hxb
        by_cases hlt : k < s.sess.length
        · obtain ⟨b, o, ha, hcs⟩ := atSes RS.out.1 hlt
          obtain ⟨b', o', ha', hcs'⟩ := atSes RS.out.2 hlt
          subst ha
          subst ha'
          have hx := hcs _ hb
          have hy := hcs' _ hb
          have hneq := fun w => NS.out s.sess[k] s.sess[k] w
          rw [decide_eq_true rfl] at hneq
          generalize s.sess[k] = x at hx hy hneq
          clear hcs hcs'
          go_wp2
          go_quiet (fail)
          go_wp2
          go_roundw
          case rel => exact ⟨k + 1, by omega, by go_num, below_drewN HB0.out _⟩
          case measure => simp [intOf]; omega
        · obtain rfl : k = s.sess.length := by omega
          skip
          go_wp2
          go_loopw [7] (fun i wr => ∃ k : Nat, k ≤ s.dsks.length ∧ i = .int .i64 k ∧ Below (w.heap.size + 2) ((w.alloc (.cells #[.int .i64 term, .int .i64 stamp, .int .i64 next, .slice a1 s.tens.length c1, .slice a2 s.leas.length c2, .slice a3 s.sess.length c3, .slice a4 s.dsks.length c4] 27)).alloc (.cells #[.int .i64 term, .int .i64 stamp, .int .i64 next, .slice b1 s.tens.length d1, .slice b2 s.leas.length d2, .slice b3 s.sess.length d3, .slice b4 s.dsks.length d4] 27)) wr) (fun i _ => s.dsks.length - (intOf i).toNat)
          case atStart => exact ⟨0, by omega, rfl, HB0.out⟩
          case round =>
            obtain ⟨k, hk, rfl, hb0⟩ := hrel
            have hb : Below w.heap.size w wr := BW.out.trans (hb0.mono (by omega))
            have HB0 := Lib.hid hb0
            obtain ⟨hxa, hxb⟩ := HBX.out wr hb0
            have p6 := hxa.cell (j := 6) rfl
            have q6 := hxb.cell (j := 6) rfl
            clear hxa hxb
            by_cases hlt : k < s.dsks.length
            · obtain ⟨b, o, ha, hcs⟩ := atDsk RD.out.1 hlt
              obtain ⟨b', o', ha', hcs'⟩ := atDsk RD.out.2 hlt
              subst ha
              subst ha'
              have hx := hcs _ hb
              have hy := hcs' _ hb
              have hneq := fun w => ND.out s.dsks[k] s.dsks[k] w
              rw [decide_eq_true rfl] at hneq
              generalize s.dsks[k] = x at hx hy hneq
              clear hcs hcs'
              go_wp2
              go_quiet (fail)
              go_wp2
              go_roundw
              case rel => exact ⟨k + 1, by omega, by go_num, below_drewN HB0.out _⟩
              case measure => simp [intOf]; omega
            · obtain rfl : k = s.dsks.length := by omega
              skip
              go_wp2
              go_returns
              exact ⟨rfl, hb⟩
end Go.Proofs.Ytoofmofaimdhpaa
