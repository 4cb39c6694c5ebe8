import Derived.Test.YtoofmofaimdhpaaPackA1
import Derived.Deep.Slices
import Derived.Carry
import Derived.SizedLaws
import Derived.Test.YtoofmofaimdhpaaPackA3
import Derived.Deep.RegionHeld3
import Derived.BigQuiet
set_option linter.unusedVariables false
set_option linter.unusedSimpArgs false
/- How a law's arguments are opened, and the frame that makes a statement out of a walk: for any law of plain data that answers one bool. -/
namespace Go.Proofs.Ytoofmofaimdhpaa
open Go.ChangeShapes Go.WideShapes Go.ChangeAt Go.RowKit Go.Deep
set_option maxRecDepth 100000

/-- The cells read as a datum of the type. -/
def Rd {H : Type} (enc : TypeId × Value → H) (P : Program) (w : World) (t : TypeId) (cs : List Value) : Prop :=
  ∃ fuel x, DataW.trod enc P w 0 (fun _ => true) true fuel t cs = some x ∧ ∀ n ∈ x.1.weights P t, n ≤ reachBytes
/-- The value is one of the type, and reads as a datum. -/
def RdV {H : Type} (enc : TypeId × Value → H) (P : Program) (w : World) (t : TypeId) (v : Value) : Prop :=
  (∃ base, Value.okWide P w .any base t v) ∧ Rd enc P w t v.cells.toList
def RdAll {H : Type} (enc : TypeId × Value → H) (P : Program) (w : World) : List TypeId → List Value → Prop
  | [], vs => vs = []
  | t :: ts, vs => ∃ v vs', vs = v :: vs' ∧ RdV enc P w t v ∧ RdAll enc P w ts vs'

section
variable {H : Type} {enc : TypeId × Value → H} {P : Program} {w : World} {t : TypeId}

theorem weights_sub {P : Program} {e : TypeId} {d : DataW H} {k : Nat} : ∀ {l : List (DataW H)}, d ∈ l → k ∈ d.weights P e → k ∈ DataW.weightsAll P e l
  | a :: l, hd, hk => by
    rw [DataW.weightsAll, List.mem_append]
    rcases List.mem_cons.1 hd with rfl | h
    · exact .inl hk
    · exact .inr (weights_sub h hk)
theorem weights_sub_each {P : Program} {k : Nat} {t : TypeId} {d : DataW H} : ∀ {ts : List TypeId} {l : List (DataW H)} {i : Nat}, ts[i]? = some t → l[i]? = some d → k ∈ d.weights P t → k ∈ DataW.weightsEach P ts l
  | t :: ts, a :: l, 0, ht, hd, hk => by
    simp at ht hd
    subst ht; subst hd
    rw [DataW.weightsEach, List.mem_append]
    exact .inl hk
  | _ :: ts, _ :: l, i + 1, ht, hd, hk => by
    rw [DataW.weightsEach, List.mem_append]
    exact .inr (weights_sub_each (i := i) (by simpa using ht) (by simpa using hd) hk)
  | [], _, _, ht, _, _ => by simp at ht
  | _ :: _, [], _, _, hd, _ => by simp at hd
theorem Rd.int {k : IntKind} {cs : List Value} (ht : P.underlying t = some (.int k)) (h : Rd enc P w t cs) : ∃ n, cs = [.int k n] ∧ (Lit.int k n).wf = true := by
  obtain ⟨f, x, h, _⟩ := h
  obtain ⟨n, h1, _, h2⟩ := DataW.trod_int ht h
  exact ⟨n, h1, h2⟩
theorem Rd.bool {cs : List Value} (ht : P.underlying t = some .bool) (h : Rd enc P w t cs) : ∃ b, cs = [.bool b] := by
  obtain ⟨f, x, h, _⟩ := h
  obtain ⟨b, h1, _⟩ := DataW.trod_bool ht h
  exact ⟨b, h1⟩
theorem Rd.slice {e : TypeId} {cs : List Value} (ht : P.underlying t = some (.slice e)) (h : Rd enc P w t cs) :
    cs = [.slice none 0 0] ∨ ∃ a len cap, cs = [.slice (some a) len cap] ∧ len ≤ cap ∧ cap ≤ maxLen ∧ cap * P.bytesOf e ≤ reachBytes ∧
      ∀ i, i < cap → ∃ c, w.cells? 0 (a.add (i * P.cellsOf e)) (P.cellsOf e) = some c ∧ Rd enc P w e c := by
  obtain ⟨f, x, h, hw⟩ := h
  rcases open_slice ht h with ⟨h1, _⟩ | ⟨a, len, cap, m, n, D, Pl, h1, _, hl, hc, hm, rfl, hel⟩
  · exact .inl h1
  · simp only [if_true] at hm
    obtain rfl := hm
    simp only [DataW.weights, ht, List.length_map, List.length_range, List.mem_cons, List.mem_append] at hw
    refine .inr ⟨a, len, m, h1, hl, hc, ?_, fun i hi => ?_⟩
    · have := hw _ (.inl rfl)
      rw [Nat.add_sub_cancel' hl] at this
      exact this
    · obtain ⟨c, hc, hx⟩ := hel i hi
      refine ⟨c, hc, n, _, hx, fun k hk => hw k (.inr ?_)⟩
      by_cases h : i < len
      · exact .inl (weights_sub (List.mem_map.2 ⟨i, by simpa using h, rfl⟩) hk)
      · exact .inr (weights_sub (List.mem_map.2 ⟨i - len, by simp; omega, by rw [Nat.add_sub_cancel' (by omega)]⟩) hk)
theorem Rd.struct {fs : Array Field} {cs : List Value} (ht : P.underlying t = some (.struct fs)) (h : Rd enc P w t cs) :
    cs.length = P.cellsOf t ∧ ∀ (i : Nat) (f : Field), fs[i]? = some f → Rd enc P w f.type ((cs.drop f.offset).take (P.cellsOf f.type)) := by
  obtain ⟨f, x, h, hw⟩ := h
  obtain ⟨xs, n, _, rfl, hl, hx, hel⟩ := DataW.trod_struct ht h
  simp only [DataW.weights, ht] at hw
  refine ⟨hl, fun i f hf => ?_⟩
  have := hel i f hf
  have hi : i < xs.length := by
    rw [hx]
    exact (Array.getElem?_eq_some_iff.1 hf).1
  exact ⟨n, xs[i], by rw [this, List.getElem?_eq_getElem hi], fun k hk => hw k (weights_sub_each (i := i) (by simpa using ⟨f, hf, rfl⟩) (by simp [List.getElem?_eq_getElem hi]) hk)⟩
theorem RdV.int {k : IntKind} {v : Value} (ht : P.underlying t = some (.int k)) (h : RdV enc P w t v) : ∃ n, v = .int k n ∧ (Lit.int k n).wf = true := by
  obtain ⟨⟨_, ho⟩, h⟩ := h
  obtain ⟨n, rfl⟩ := okWide_int ht ho
  obtain ⟨m, h1, h2⟩ := h.int ht
  simp [Value.cells] at h1
  subst h1
  exact ⟨_, rfl, h2⟩
theorem RdV.bool {v : Value} (ht : P.underlying t = some .bool) (h : RdV enc P w t v) : ∃ b, v = .bool b := by
  obtain ⟨⟨_, ho⟩, h⟩ := h
  exact okWide_bool ht ho
theorem RdV.slice {e : TypeId} {v : Value} (ht : P.underlying t = some (.slice e)) (h : RdV enc P w t v) : ∃ a len cap, v = .slice a len cap ∧ Rd enc P w t [.slice a len cap] := by
  obtain ⟨⟨_, ho⟩, h⟩ := h
  obtain ⟨a, len, cap, rfl⟩ := okWide_slice ht ho
  exact ⟨a, len, cap, rfl, h⟩
theorem RdV.struct {fs : Array Field} {v : Value} (ht : P.underlying t = some (.struct fs)) (h : RdV enc P w t v) : ∃ cs : List Value, v = .agg cs.toArray ∧ Rd enc P w t cs := by
  obtain ⟨⟨_, ho⟩, h⟩ := h
  obtain ⟨cs, rfl, _⟩ := okWide_struct ht ho
  exact ⟨cs.toList, by simp, h⟩

/-- A slice opened, its elements as whatever they are told to be. -/
theorem Rd.rows {α : Type} {e : TypeId} {a : Option Addr} {len cap size : Nat} {cells : α → List Value} {good : α → Prop} (hs : ∀ x, (cells x).length = size) (hpos : 0 < size) (ht : P.underlying t = some (.slice e)) (hc : P.cellsOf e = size)
    (each : ∀ cs, Rd enc P w e cs → ∃ x, cs = cells x ∧ good x) (h : Rd enc P w t [.slice a len cap]) :
    ∃ xs : List α, xs.length = len ∧ len ≤ cap ∧ cap ≤ maxLen ∧ cap * P.bytesOf e ≤ reachBytes ∧ (a = none → cap = 0) ∧ (∀ x ∈ xs, good x) ∧ Row w a (xs.flatMap cells) := by
  rcases h.slice ht with h1 | ⟨x, l, c, h1, hl, hm, hby, hel⟩
  · simp at h1
    obtain ⟨rfl, rfl, rfl⟩ := h1
    exact ⟨[], rfl, Nat.le_refl _, Nat.zero_le _, by simp, fun _ => rfl, by simp, .inl rfl⟩
  · simp at h1
    obtain ⟨rfl, rfl, rfl⟩ := h1
    rw [hc] at hel
    have hv : ∀ i, i < len → ∃ y : α, good y ∧ w.cells? 0 (x.add (i * size)) size = some (cells y) := by
      intro i hi
      obtain ⟨cs, hcs, hr⟩ := hel i (by omega)
      obtain ⟨y, rfl, hy⟩ := each _ hr
      exact ⟨y, hy, hcs⟩
    by_cases h0 : len = 0
    · subst h0
      exact ⟨[], rfl, Nat.zero_le _, hm, hby, fun e => by simp at e, by simp, .inl rfl⟩
    · obtain ⟨y0, _⟩ := hv 0 (by omega)
      have : Inhabited α := ⟨y0⟩
      obtain ⟨g, hg⟩ := choose_lt (p := fun i y => good y ∧ w.cells? 0 (x.add (i * size)) size = some (cells y)) hv
      have hcell : ∀ i r, i < len → r < size → w.cell? ((x.add (i * size)).add r) = (cells (g i))[r]? := by
        intro i r hi hr
        obtain ⟨_, _, hall⟩ := World.cells?_some (hg i hi).2
        exact hall r hr
      have hspot : x.spot = none := by
        have h1 := hcell 0 0 (by omega) hpos
        obtain ⟨v, hv⟩ : ∃ v, (cells (g 0))[0]? = some v := by
          cases hh : (cells (g 0))[0]? with
          | some v => exact ⟨v, rfl⟩
          | none => rw [List.getElem?_eq_none_iff, hs] at hh; omega
        have := World.cell?_spot (h1.trans hv)
        simpa [Addr.add] using this
      obtain ⟨b, o, spot⟩ := x
      simp only at hspot
      subst hspot
      refine ⟨(List.range len).map g, by simp, hl, hm, hby, fun e => by simp at e, ?_, .inr ⟨b, o, rfl, fun j hj => ?_⟩⟩
      · intro y hy
        obtain ⟨i, hi, rfl⟩ := List.mem_map.1 hy
        exact (hg i (by simpa using hi)).1
      · have hlen := flatMap_len hs ((List.range len).map g)
        rw [List.length_map, List.length_range] at hlen
        have hj2 : j < len * size := by rw [← hlen]; exact hj
        have hi : j / size < len := Nat.div_lt_of_lt_mul (by rw [Nat.mul_comm]; exact hj2)
        have hr : j % size < size := Nat.mod_lt _ hpos
        have hjj : j / size * size + j % size = j := by rw [Nat.mul_comm]; exact Nat.div_add_mod j size
        have h1 := flatMap_at hs (xs := (List.range len).map g) (i := j / size) hr
        rw [hjj] at h1
        have h2 := hcell (j / size) (j % size) hi hr
        have h3 : ((⟨b, o, none⟩ : Addr).add (j / size * size)).add (j % size) = ⟨b, o + j, none⟩ := by
          rw [add_add, hjj]
          unfold Addr.add
          by_cases hz : j = 0
          · subst hz; simp
          · simp [hz]
        rw [h3] at h2
        rw [h2, ← List.getElem?_eq_getElem hj, h1, List.getElem?_map, List.getElem?_range hi]
        rfl

/-- A slice of one-cell numbers, opened. -/
theorem Rd.ints {e : TypeId} {k : IntKind} {a : Option Addr} {len cap : Nat} (ht : P.underlying t = some (.slice e)) (he : P.underlying e = some (.int k)) (hc : P.cellsOf e = 1) (h : Rd enc P w t [.slice a len cap]) :
    ∃ zs : List Int, zs.length = len ∧ len ≤ cap ∧ cap ≤ maxLen ∧ cap * P.bytesOf e ≤ reachBytes ∧ (∀ n ∈ zs, (Lit.int k n).wf = true) ∧ (a = none → cap = 0) ∧ Row w a (zs.map (Value.int k)) := by
  rcases h.slice ht with h1 | ⟨x, l, c, h1, hl, hm, hby, hel⟩
  · simp at h1
    obtain ⟨rfl, rfl, rfl⟩ := h1
    exact ⟨[], rfl, Nat.le_refl _, Nat.zero_le _, by simp, by simp, fun _ => rfl, .inl rfl⟩
  · simp at h1
    obtain ⟨rfl, rfl, rfl⟩ := h1
    rw [hc] at hel
    have hv : ∀ i, i < len → ∃ n, (Lit.int k n).wf = true ∧ w.cell? (x.add i) = some (.int k n) := by
      intro i hi
      obtain ⟨cs, hcs, hr⟩ := hel i (by omega)
      obtain ⟨n, rfl, hw⟩ := hr.int he
      refine ⟨n, hw, ?_⟩
      rw [Nat.mul_one] at hcs
      simp only [World.cells?, Nat.zero_le, if_true, List.range_succ, List.range_zero, List.nil_append] at hcs
      have he : (x.add i).add 0 = x.add i := by simp [Addr.add]
      simp only [List.mapM_cons, List.mapM_nil, he] at hcs
      revert hcs
      cases w.cell? (x.add i) with
      | none => intro h; cases h
      | some v => intro h; simpa using h
    obtain ⟨g, hg⟩ := choose_lt (p := fun i n => (Lit.int k n).wf = true ∧ w.cell? (x.add i) = some (.int k n)) hv
    refine ⟨(List.range len).map g, by simp, hl, hm, hby, ?_, fun e => by simp at e, ?_⟩
    · intro n hn
      obtain ⟨i, hi, rfl⟩ := List.mem_map.1 hn
      exact (hg i (by simpa using hi)).1
    · by_cases h0 : len = 0
      · subst h0; exact .inl rfl
      · have hs := World.cell?_spot (hg 0 (by omega)).2
        have hspot : x.spot = none := by simpa [Addr.add] using hs
        obtain ⟨b, o, spot⟩ := x
        simp only at hspot
        subst hspot
        refine .inr ⟨b, o, rfl, fun i hi => ?_⟩
        simp only [List.length_map, List.length_range] at hi
        have := (hg i hi).2
        by_cases hi0 : i = 0
        · subst hi0; simpa [Addr.add] using this
        · simpa [Addr.add, hi0] using this
/-- A slice of bytes, opened. -/
theorem Rd.bytes {e : TypeId} {a : Option Addr} {len cap : Nat} (ht : P.underlying t = some (.slice e)) (he : P.underlying e = some (.int .u8)) (hc : P.cellsOf e = 1) (h : Rd enc P w t [.slice a len cap]) :
    ∃ l : List UInt8, l.length = len ∧ len ≤ cap ∧ cap ≤ maxLen ∧ cap * P.bytesOf e ≤ reachBytes ∧ (a = none → cap = 0) ∧ RowB w a l := by
  obtain ⟨zs, h1, h2, h3, hby, h4, h5, h6⟩ := h.ints ht he hc
  refine ⟨zs.map fun z => UInt8.ofNat z.toNat, by simpa using h1, h2, h3, hby, h5, ?_⟩
  have : (zs.map fun z => UInt8.ofNat z.toNat).map B = zs.map (Value.int .u8) := by
    rw [List.map_map]
    refine List.map_congr_left fun z hz => ?_
    obtain ⟨b0, b1⟩ := bounds_u8 (h4 z hz)
    simp only [Function.comp, B]
    congr 1
    rw [UInt8.toNat_ofNat']
    omega
  unfold RowB
  rw [this]
  exact h6
end

theorem RdAll.of {H : Type} {enc : TypeId × Value → H} {P : Program} {w : World} {base : Nat} : ∀ {ts : List TypeId} {vs : List Value} {ds : List (DataW H)} {p : List MemPlace}, DataW.TrodAll enc P w 0 (fun _ => true) true ts vs ds p →
    (∀ (j : Nat) t v, ts[j]? = some t → vs[j]? = some v → Value.okWide P w .any base t v) → (∀ n ∈ DataW.weightsEach P ts ds, n ≤ reachBytes) → RdAll enc P w ts vs
  | [], [], [], _, _, _, _ => rfl
  | t :: _, v :: vs, _ :: _, _, ⟨_, _, ⟨fuel, hx⟩, h, _⟩, hok, hw =>
    ⟨v, vs, rfl, ⟨⟨base, hok 0 t v rfl rfl⟩, fuel, _, hx, fun n hn => hw n (by rw [DataW.weightsEach, List.mem_append]; exact .inl hn)⟩,
      RdAll.of h (fun j t v ht hv => hok (j + 1) t v ht hv) (fun n hn => hw n (by rw [DataW.weightsEach, List.mem_append]; exact .inr hn))⟩

theorem trodAll_stays {H : Type} {enc : TypeId × Value → H} {P : Program} {W W' : World} (hl : laidOutB P = true) (hb : Below W.heap.size W W') : ∀ {ts : List TypeId} {vs : List Value} {ds : List (DataW H)} {p : List MemPlace},
    (∀ t ∈ ts, P.readableRec t = true ∧ t < P.types.size) → DataW.TrodAll enc P W 0 (fun _ => true) true ts vs ds p → DataW.TrodAll enc P W' 0 (fun b => decide (b < W.heap.size)) true ts vs ds p
  | [], [], [], _, _, h => h
  | t :: ts, v :: vs, d :: ds, _, hall, ⟨p, q, hx, h, rfl⟩ =>
    ⟨_, _, Below.trod hl (hall t (by simp)).1 (hall t (by simp)).2 hx hb (by obtain ⟨m, hm⟩ := hx; exact DataW.trod_lt m _ _ _ hm), trodAll_stays hl hb (fun t ht => hall t (by simp [ht])) h, rfl⟩

theorem trodAll_length {H : Type} {enc : TypeId × Value → H} {P : Program} {W : World} {b : Nat} {sp : Nat → Bool} {hd : Bool} : ∀ {ts : List TypeId} {vs : List Value} {ds : List (DataW H)} {p : List MemPlace},
    DataW.TrodAll enc P W b sp hd ts vs ds p → ds.length = ts.length
  | [], [], [], _, _ => rfl
  | _ :: _, _ :: _, _ :: _, _, ⟨_, _, _, h, _⟩ => congrArg (· + 1) (trodAll_length h)

/-- THE FRAME: from the walk to the lifted row. -/
theorem law_lifted {H : Type} {enc : TypeId × Value → H} {C : Checked} {os : Os} {f : FuncId} {fn : Func} {s : ChangeSpec} {boolT : TypeId}
    (own : ownKnob C.prog.godebug = none) (started : os.Started) (noInit : C.prog.inits.idxOf? f = none) (hfn : C.prog.funcs[f]? = some fn)
    (witness : ∃ (w : World) (tape : Tape) (i : Input), w.os = os ∧ (w.forCall tape i).Shaped C.prog ∧ i.vars = [] ∧ Input.okWide C.prog (w.forCall tape i) .any w.heap.size f i ∧
      s.pre6 enc C.prog fn [] false (w.forCall tape i).memory i.args ∧ ({} : Assume).holds C.prog (lone (Frame.enter C.prog f i.args .normal) [] (w.forCall tape i)))
    (hvars : s.vars = []) (hres : fn.resultTypes = #[boolT]) (hbool : C.prog.underlying boolT = some .bool) (hlaid : laidOutB C.prog = true)
    (hpar0 : (fn.params.toList.all fun t => C.prog.readableRec t && decide (t < C.prog.types.size)) = true)
    (hspec : ∀ ds : List (DataW H), ds.length = fn.params.toList.length → s.fn H ds = { results := [.lit (.bool true)], args := ds })
    (walk : ∀ (W : World) (vs : List Value), RdAll enc C.prog W fn.params.toList vs → Calls C.prog f vs.toArray W fun e W' => e = .returned (.bool true) ∧ Below W.heap.size W W') :
    ReturnsInHanded {} C os f .any (s.pre6 enc C.prog fn [] false) (s.post enc C.prog fn false true false false) := by
  have hpar : ∀ t ∈ fn.params.toList, C.prog.readableRec t = true ∧ t < C.prog.types.size := fun t ht => by
    have := List.all_eq_true.1 hpar0 t ht
    simpa using this
  refine returnsInHanded_of_change_sized own started noInit hfn witness ?_
  intro W base args ds gs before hval hW hcnd hsz _
  have hW' := hW
  obtain ⟨p, q, hA, hV, rfl, hfz, hnd⟩ := hW
  rw [hvars] at hV
  obtain ⟨rfl, rfl⟩ : gs = [] ∧ q = [] := by
    cases gs with
    | nil => exact ⟨rfl, hV⟩
    | cons g gs => exact hV.elim
  have hr := RdAll.of (base := base) hA (fun j t v ht hv => hval j t v (by simpa using ht) (by simpa using hv)) (fun n hn => by
    have hv0 : s.plain.varTypes C.prog = [] := by unfold DataSpec.varTypes ChangeSpec.plain; simp [hvars]
    rw [hv0, List.append_nil, List.append_nil] at hsz
    simpa using List.all_eq_true.1 hsz n hn)
  have hw := walk W args.toList hr
  rw [Array.toArray_toList] at hw
  refine hw.mono fun e W' ⟨he, hb⟩ => ?_
  have hs := hspec ds (trodAll_length hA)
  refine ⟨_, he, ds, [], _, [], p, [], hW', ?_, ?_, ?_, hb.frame _, fun h => by cases h⟩
  · rw [List.append_nil, hs, hres]
    exact trodAll_mk1 (shut_bool hbool _)
  · rw [List.append_nil, hs]
    exact trodAll_stays hlaid hb hpar hA
  · rw [List.append_nil, hs, hvars]; rfl

theorem own : ownKnob Try.prog.godebug = none := by kernel_rfl
theorem laidOut : laidOutB Try.prog = true := by kernel_rfl
end Go.Proofs.Ytoofmofaimdhpaa

namespace Go.Proofs.Ytoofmofaimdhpaa
open Go.ChangeShapes Go.WideShapes Go.ChangeAt Go.RowKit
set_option maxRecDepth 100000

theorem open_tenant {H : Type} {enc : TypeId × Value → H} {w : World} {cs : List Value} (h : Rd enc Try.prog w 55 cs) : ∃ x : Tenant, cs = x.cells := by
  obtain ⟨hl, hf⟩ := h.struct Try.underlying55
  have h5 : Try.prog.cellsOf 55 = 5 := by kernel_rfl
  have c3 : Try.prog.cellsOf 3 = 1 := by kernel_rfl
  have c4 : Try.prog.cellsOf 4 = 1 := by kernel_rfl
  rw [h5] at hl
  match cs, hl with
  | [v0, v1, v2, v3, v4], _ =>
    have f0 : Rd enc Try.prog w 3 ((([v0, v1, v2, v3, v4] : List Value).drop 0).take (Try.prog.cellsOf 3)) := hf 0 _ rfl
    rw [c3] at f0
    replace f0 : Rd enc Try.prog w 3 [v0] := f0
    have f1 : Rd enc Try.prog w 3 ((([v0, v1, v2, v3, v4] : List Value).drop 1).take (Try.prog.cellsOf 3)) := hf 1 _ rfl
    rw [c3] at f1
    replace f1 : Rd enc Try.prog w 3 [v1] := f1
    have f2 : Rd enc Try.prog w 3 ((([v0, v1, v2, v3, v4] : List Value).drop 2).take (Try.prog.cellsOf 3)) := hf 2 _ rfl
    rw [c3] at f2
    replace f2 : Rd enc Try.prog w 3 [v2] := f2
    have f3 : Rd enc Try.prog w 3 ((([v0, v1, v2, v3, v4] : List Value).drop 3).take (Try.prog.cellsOf 3)) := hf 3 _ rfl
    rw [c3] at f3
    replace f3 : Rd enc Try.prog w 3 [v3] := f3
    have f4 : Rd enc Try.prog w 4 ((([v0, v1, v2, v3, v4] : List Value).drop 4).take (Try.prog.cellsOf 4)) := hf 4 _ rfl
    rw [c4] at f4
    replace f4 : Rd enc Try.prog w 4 [v4] := f4
    obtain ⟨n0, e0, -⟩ := f0.int Try.underlying3
    obtain ⟨n1, e1, -⟩ := f1.int Try.underlying3
    obtain ⟨n2, e2, -⟩ := f2.int Try.underlying3
    obtain ⟨n3, e3, -⟩ := f3.int Try.underlying3
    obtain ⟨b4, e4⟩ := f4.bool Try.underlying4
    simp only [List.cons.injEq, and_true] at e0 e1 e2 e3 e4
    subst e0 e1 e2 e3 e4
    exact ⟨⟨n0, n1, n2, n3, b4⟩, rfl⟩
theorem open_tenants {H : Type} {enc : TypeId × Value → H} {w : World} {a : Option Addr} {len cap : Nat} (h : Rd enc Try.prog w 22 [.slice a len cap]) :
    ∃ ts : List Tenant, ts.length = len ∧ len ≤ cap ∧ (a = none → cap = 0) ∧ TRow w a ts := by
  obtain ⟨xs, h1, h2, h3, _, h5, _, hr⟩ := Rd.rows (α := Tenant) (cells := Tenant.cells) (size := 5) (good := fun _ => True) (fun _ => rfl) (by decide) Try.underlying22 (by kernel_rfl) (fun cs hcs => by obtain ⟨x, hx⟩ := open_tenant hcs; exact ⟨x, hx, trivial⟩) h
  exact ⟨xs, h1, h2, h5, hr⟩
end Go.Proofs.Ytoofmofaimdhpaa

namespace Go.Proofs.Ytoofmofaimdhpaa
open Go.ChangeShapes Go.WideShapes Go.ChangeAt Go.RowKit
set_option maxRecDepth 100000

theorem open_lea {H : Type} {enc : TypeId × Value → H} {w : World} {cs : List Value} (h : Rd enc Try.prog w 38 cs) : ∃ x : Lease, cs = x.cells := by
  obtain ⟨hl, hf⟩ := h.struct Try.underlying38
  have hn : Try.prog.cellsOf 38 = 7 := by kernel_rfl
  have z_int : Try.prog.cellsOf 3 = 1 := by kernel_rfl
  rw [hn] at hl
  match cs, hl with
  | [v0, v1, v2, v3, v4, v5, v6], _ =>
    have f0 : Rd enc Try.prog w 3 ((([v0, v1, v2, v3, v4, v5, v6] : List Value).drop 0).take (Try.prog.cellsOf 3)) := hf 0 _ rfl
    rw [z_int] at f0
    replace f0 : Rd enc Try.prog w 3 [v0] := f0
    obtain ⟨x0, e0, -⟩ := f0.int Try.underlying3
    have f1 : Rd enc Try.prog w 3 ((([v0, v1, v2, v3, v4, v5, v6] : List Value).drop 1).take (Try.prog.cellsOf 3)) := hf 1 _ rfl
    rw [z_int] at f1
    replace f1 : Rd enc Try.prog w 3 [v1] := f1
    obtain ⟨x1, e1, -⟩ := f1.int Try.underlying3
    have f2 : Rd enc Try.prog w 3 ((([v0, v1, v2, v3, v4, v5, v6] : List Value).drop 2).take (Try.prog.cellsOf 3)) := hf 2 _ rfl
    rw [z_int] at f2
    replace f2 : Rd enc Try.prog w 3 [v2] := f2
    obtain ⟨x2, e2, -⟩ := f2.int Try.underlying3
    have f3 : Rd enc Try.prog w 3 ((([v0, v1, v2, v3, v4, v5, v6] : List Value).drop 3).take (Try.prog.cellsOf 3)) := hf 3 _ rfl
    rw [z_int] at f3
    replace f3 : Rd enc Try.prog w 3 [v3] := f3
    obtain ⟨x3, e3, -⟩ := f3.int Try.underlying3
    have f4 : Rd enc Try.prog w 3 ((([v0, v1, v2, v3, v4, v5, v6] : List Value).drop 4).take (Try.prog.cellsOf 3)) := hf 4 _ rfl
    rw [z_int] at f4
    replace f4 : Rd enc Try.prog w 3 [v4] := f4
    obtain ⟨x4, e4, -⟩ := f4.int Try.underlying3
    have f5 : Rd enc Try.prog w 3 ((([v0, v1, v2, v3, v4, v5, v6] : List Value).drop 5).take (Try.prog.cellsOf 3)) := hf 5 _ rfl
    rw [z_int] at f5
    replace f5 : Rd enc Try.prog w 3 [v5] := f5
    obtain ⟨x5, e5, -⟩ := f5.int Try.underlying3
    have f6 : Rd enc Try.prog w 3 ((([v0, v1, v2, v3, v4, v5, v6] : List Value).drop 6).take (Try.prog.cellsOf 3)) := hf 6 _ rfl
    rw [z_int] at f6
    replace f6 : Rd enc Try.prog w 3 [v6] := f6
    obtain ⟨x6, e6, -⟩ := f6.int Try.underlying3
    simp only [List.cons.injEq, and_true] at e0 e1 e2 e3 e4 e5 e6
    subst e0
    subst e1
    subst e2
    subst e3
    subst e4
    subst e5
    subst e6
    exact ⟨⟨x0, x1, x2, x3, x4, x5, x6⟩, rfl⟩
theorem open_leas {H : Type} {enc : TypeId × Value → H} {w : World} {a : Option Addr} {len cap : Nat} (h : Rd enc Try.prog w 23 [.slice a len cap]) :
    ∃ ts : List Lease, ts.length = len ∧ len ≤ cap ∧ cap ≤ maxLen ∧ (a = none → cap = 0) ∧ LRow layLea w a ts := by
  obtain ⟨xs, h1, h2, h3, _, h5, _, hr⟩ := Rd.rows (α := Lease) (cells := Lease.cells) (size := 7) (good := fun _ => True) (fun _ => rfl) (by decide) Try.underlying23 (by kernel_rfl) (fun cs hcs => by obtain ⟨x, hx⟩ := open_lea hcs; exact ⟨x, hx, trivial⟩) h
  exact ⟨xs, h1, h2, h3, h5, hr⟩
end Go.Proofs.Ytoofmofaimdhpaa

namespace Go.Proofs.Ytoofmofaimdhpaa
open Go.ChangeShapes Go.WideShapes Go.ChangeAt Go.RowKit
set_option maxRecDepth 100000

theorem open_ans {H : Type} {enc : TypeId × Value → H} {w : World} {cs : List Value} (h : Rd enc Try.prog w 32 cs) : ∃ x : Ans, cs = x.cells := by
  obtain ⟨hl, hf⟩ := h.struct Try.underlying32
  have hn : Try.prog.cellsOf 32 = 5 := by kernel_rfl
  have z_int : Try.prog.cellsOf 3 = 1 := by kernel_rfl
  have z_Errno : Try.prog.cellsOf 30 = 1 := by kernel_rfl
  rw [hn] at hl
  match cs, hl with
  | [v0, v1, v2, v3, v4], _ =>
    have f0 : Rd enc Try.prog w 30 ((([v0, v1, v2, v3, v4] : List Value).drop 0).take (Try.prog.cellsOf 30)) := hf 0 _ rfl
    rw [z_Errno] at f0
    replace f0 : Rd enc Try.prog w 30 [v0] := f0
    obtain ⟨x0, e0, -⟩ := f0.int Try.underlying30
    have f1 : Rd enc Try.prog w 3 ((([v0, v1, v2, v3, v4] : List Value).drop 1).take (Try.prog.cellsOf 3)) := hf 1 _ rfl
    rw [z_int] at f1
    replace f1 : Rd enc Try.prog w 3 [v1] := f1
    obtain ⟨x1, e1, -⟩ := f1.int Try.underlying3
    have f2 : Rd enc Try.prog w 3 ((([v0, v1, v2, v3, v4] : List Value).drop 2).take (Try.prog.cellsOf 3)) := hf 2 _ rfl
    rw [z_int] at f2
    replace f2 : Rd enc Try.prog w 3 [v2] := f2
    obtain ⟨x2, e2, -⟩ := f2.int Try.underlying3
    have f3 : Rd enc Try.prog w 3 ((([v0, v1, v2, v3, v4] : List Value).drop 3).take (Try.prog.cellsOf 3)) := hf 3 _ rfl
    rw [z_int] at f3
    replace f3 : Rd enc Try.prog w 3 [v3] := f3
    obtain ⟨x3, e3, -⟩ := f3.int Try.underlying3
    have f4 : Rd enc Try.prog w 3 ((([v0, v1, v2, v3, v4] : List Value).drop 4).take (Try.prog.cellsOf 3)) := hf 4 _ rfl
    rw [z_int] at f4
    replace f4 : Rd enc Try.prog w 3 [v4] := f4
    obtain ⟨x4, e4, -⟩ := f4.int Try.underlying3
    simp only [List.cons.injEq, and_true] at e0 e1 e2 e3 e4
    subst e0
    subst e1
    subst e2
    subst e3
    subst e4
    exact ⟨⟨x0, x1, x2, x3, x4⟩, rfl⟩
theorem open_ses {H : Type} {enc : TypeId × Value → H} {w : World} {cs : List Value} (h : Rd enc Try.prog w 70 cs) : ∃ x : Session, cs = x.cells := by
  obtain ⟨hl, hf⟩ := h.struct Try.underlying70
  have hn : Try.prog.cellsOf 70 = 7 := by kernel_rfl
  have z_int : Try.prog.cellsOf 3 = 1 := by kernel_rfl
  have z_Answer : Try.prog.cellsOf 32 = 5 := by kernel_rfl
  rw [hn] at hl
  match cs, hl with
  | [v0, v1, v2, v3, v4, v5, v6], _ =>
    have f0 : Rd enc Try.prog w 3 ((([v0, v1, v2, v3, v4, v5, v6] : List Value).drop 0).take (Try.prog.cellsOf 3)) := hf 0 _ rfl
    rw [z_int] at f0
    replace f0 : Rd enc Try.prog w 3 [v0] := f0
    obtain ⟨x0, e0, -⟩ := f0.int Try.underlying3
    have f1 : Rd enc Try.prog w 3 ((([v0, v1, v2, v3, v4, v5, v6] : List Value).drop 1).take (Try.prog.cellsOf 3)) := hf 1 _ rfl
    rw [z_int] at f1
    replace f1 : Rd enc Try.prog w 3 [v1] := f1
    obtain ⟨x1, e1, -⟩ := f1.int Try.underlying3
    have f2 : Rd enc Try.prog w 32 ((([v0, v1, v2, v3, v4, v5, v6] : List Value).drop 2).take (Try.prog.cellsOf 32)) := hf 2 _ rfl
    rw [z_Answer] at f2
    replace f2 : Rd enc Try.prog w 32 [v2, v3, v4, v5, v6] := f2
    obtain ⟨x2, e2⟩ := open_ans f2
    simp only [List.cons.injEq, and_true] at e0 e1 e2
    subst e0
    subst e1
    obtain ⟨rfl, rfl, rfl, rfl, rfl⟩ := e2
    exact ⟨⟨x0, x1, x2⟩, rfl⟩
theorem open_sess {H : Type} {enc : TypeId × Value → H} {w : World} {a : Option Addr} {len cap : Nat} (h : Rd enc Try.prog w 24 [.slice a len cap]) :
    ∃ ts : List Session, ts.length = len ∧ len ≤ cap ∧ cap ≤ maxLen ∧ (a = none → cap = 0) ∧ LRow laySes w a ts := by
  obtain ⟨xs, h1, h2, h3, _, h5, _, hr⟩ := Rd.rows (α := Session) (cells := Session.cells) (size := 7) (good := fun _ => True) (fun _ => rfl) (by decide) Try.underlying24 (by kernel_rfl) (fun cs hcs => by obtain ⟨x, hx⟩ := open_ses hcs; exact ⟨x, hx, trivial⟩) h
  exact ⟨xs, h1, h2, h3, h5, hr⟩
end Go.Proofs.Ytoofmofaimdhpaa

namespace Go.Proofs.Ytoofmofaimdhpaa
open Go.ChangeShapes Go.WideShapes Go.ChangeAt Go.RowKit
set_option maxRecDepth 100000

theorem open_dsk {H : Type} {enc : TypeId × Value → H} {w : World} {cs : List Value} (h : Rd enc Try.prog w 72 cs) : ∃ x : Desk, cs = x.cells := by
  obtain ⟨hl, hf⟩ := h.struct Try.underlying72
  have hn : Try.prog.cellsOf 72 = 8 := by kernel_rfl
  have z_int : Try.prog.cellsOf 3 = 1 := by kernel_rfl
  have z_Answer : Try.prog.cellsOf 32 = 5 := by kernel_rfl
  rw [hn] at hl
  match cs, hl with
  | [v0, v1, v2, v3, v4, v5, v6, v7], _ =>
    have f0 : Rd enc Try.prog w 3 ((([v0, v1, v2, v3, v4, v5, v6, v7] : List Value).drop 0).take (Try.prog.cellsOf 3)) := hf 0 _ rfl
    rw [z_int] at f0
    replace f0 : Rd enc Try.prog w 3 [v0] := f0
    obtain ⟨x0, e0, -⟩ := f0.int Try.underlying3
    have f1 : Rd enc Try.prog w 3 ((([v0, v1, v2, v3, v4, v5, v6, v7] : List Value).drop 1).take (Try.prog.cellsOf 3)) := hf 1 _ rfl
    rw [z_int] at f1
    replace f1 : Rd enc Try.prog w 3 [v1] := f1
    obtain ⟨x1, e1, -⟩ := f1.int Try.underlying3
    have f2 : Rd enc Try.prog w 3 ((([v0, v1, v2, v3, v4, v5, v6, v7] : List Value).drop 2).take (Try.prog.cellsOf 3)) := hf 2 _ rfl
    rw [z_int] at f2
    replace f2 : Rd enc Try.prog w 3 [v2] := f2
    obtain ⟨x2, e2, -⟩ := f2.int Try.underlying3
    have f3 : Rd enc Try.prog w 32 ((([v0, v1, v2, v3, v4, v5, v6, v7] : List Value).drop 3).take (Try.prog.cellsOf 32)) := hf 3 _ rfl
    rw [z_Answer] at f3
    replace f3 : Rd enc Try.prog w 32 [v3, v4, v5, v6, v7] := f3
    obtain ⟨x3, e3⟩ := open_ans f3
    simp only [List.cons.injEq, and_true] at e0 e1 e2 e3
    subst e0
    subst e1
    subst e2
    obtain ⟨rfl, rfl, rfl, rfl, rfl⟩ := e3
    exact ⟨⟨x0, x1, x2, x3⟩, rfl⟩
theorem open_dsks {H : Type} {enc : TypeId × Value → H} {w : World} {a : Option Addr} {len cap : Nat} (h : Rd enc Try.prog w 25 [.slice a len cap]) :
    ∃ ts : List Desk, ts.length = len ∧ len ≤ cap ∧ cap ≤ maxLen ∧ (a = none → cap = 0) ∧ LRow layDsk w a ts := by
  obtain ⟨xs, h1, h2, h3, _, h5, _, hr⟩ := Rd.rows (α := Desk) (cells := Desk.cells) (size := 8) (good := fun _ => True) (fun _ => rfl) (by decide) Try.underlying25 (by kernel_rfl) (fun cs hcs => by obtain ⟨x, hx⟩ := open_dsk hcs; exact ⟨x, hx, trivial⟩) h
  exact ⟨xs, h1, h2, h3, h5, hr⟩
end Go.Proofs.Ytoofmofaimdhpaa

/- A State argument opened: its seven cells, its four rows. -/
namespace Go.Proofs.Ytoofmofaimdhpaa
open Go.ChangeShapes Go.WideShapes Go.ChangeAt Go.RowKit
set_option maxRecDepth 100000

theorem one_slice {H : Type} {enc : TypeId × Value → H} {P : Program} {w : World} {t e : TypeId} {v : Value} (ht : P.underlying t = some (.slice e)) (h : Rd enc P w t [v]) : ∃ a n c, v = .slice a n c := by
  rcases h.slice ht with h1 | ⟨a, n, c, h1, _⟩
  · simp at h1; exact ⟨_, _, _, h1⟩
  · simp at h1; exact ⟨_, _, _, h1⟩
theorem open_state {H : Type} {enc : TypeId × Value → H} {w : World} {cs : List Value} (h : Rd enc Try.prog w 27 cs) : ∃ (r : Raw) (s : St), cs = r.cells ∧ StAt w 0 r s := by
  obtain ⟨hl, hf⟩ := h.struct Try.underlying27
  have hn : Try.prog.cellsOf 27 = 7 := by kernel_rfl
  have z_int : Try.prog.cellsOf 3 = 1 := by kernel_rfl
  have z_ten : Try.prog.cellsOf 22 = 1 := by kernel_rfl
  have z_lea : Try.prog.cellsOf 23 = 1 := by kernel_rfl
  have z_ses : Try.prog.cellsOf 24 = 1 := by kernel_rfl
  have z_dsk : Try.prog.cellsOf 25 = 1 := by kernel_rfl
  rw [hn] at hl
  match cs, hl with
  | [v0, v1, v2, v3, v4, v5, v6], _ =>
    have f0 : Rd enc Try.prog w 3 ((([v0, v1, v2, v3, v4, v5, v6] : List Value).drop 0).take (Try.prog.cellsOf 3)) := hf 0 _ rfl
    rw [z_int] at f0
    replace f0 : Rd enc Try.prog w 3 [v0] := f0
    obtain ⟨x0, e0, -⟩ := f0.int Try.underlying3
    have f1 : Rd enc Try.prog w 3 ((([v0, v1, v2, v3, v4, v5, v6] : List Value).drop 1).take (Try.prog.cellsOf 3)) := hf 1 _ rfl
    rw [z_int] at f1
    replace f1 : Rd enc Try.prog w 3 [v1] := f1
    obtain ⟨x1, e1, -⟩ := f1.int Try.underlying3
    have f2 : Rd enc Try.prog w 3 ((([v0, v1, v2, v3, v4, v5, v6] : List Value).drop 2).take (Try.prog.cellsOf 3)) := hf 2 _ rfl
    rw [z_int] at f2
    replace f2 : Rd enc Try.prog w 3 [v2] := f2
    obtain ⟨x2, e2, -⟩ := f2.int Try.underlying3
    have f3 : Rd enc Try.prog w 22 ((([v0, v1, v2, v3, v4, v5, v6] : List Value).drop 3).take (Try.prog.cellsOf 22)) := hf 3 _ rfl
    rw [z_ten] at f3
    replace f3 : Rd enc Try.prog w 22 [v3] := f3
    obtain ⟨a3, n3, c3, rfl⟩ := one_slice Try.underlying22 f3
    obtain ⟨ts, l3, k3, z3, r3⟩ := open_tenants f3
    have f4 : Rd enc Try.prog w 23 ((([v0, v1, v2, (Value.slice a3 n3 c3), v4, v5, v6] : List Value).drop 4).take (Try.prog.cellsOf 23)) := hf 4 _ rfl
    rw [z_lea] at f4
    replace f4 : Rd enc Try.prog w 23 [v4] := f4
    obtain ⟨a4, n4, c4, rfl⟩ := one_slice Try.underlying23 f4
    obtain ⟨ls, l4, k4, m4, z4, r4⟩ := open_leas f4
    have f5 : Rd enc Try.prog w 24 ((([v0, v1, v2, (Value.slice a3 n3 c3), (Value.slice a4 n4 c4), v5, v6] : List Value).drop 5).take (Try.prog.cellsOf 24)) := hf 5 _ rfl
    rw [z_ses] at f5
    replace f5 : Rd enc Try.prog w 24 [v5] := f5
    obtain ⟨a5, n5, c5, rfl⟩ := one_slice Try.underlying24 f5
    obtain ⟨ss, l5, k5, m5, z5, r5⟩ := open_sess f5
    have f6 : Rd enc Try.prog w 25 ((([v0, v1, v2, (Value.slice a3 n3 c3), (Value.slice a4 n4 c4), (Value.slice a5 n5 c5), v6] : List Value).drop 6).take (Try.prog.cellsOf 25)) := hf 6 _ rfl
    rw [z_dsk] at f6
    replace f6 : Rd enc Try.prog w 25 [v6] := f6
    obtain ⟨a6, n6, c6, rfl⟩ := one_slice Try.underlying25 f6
    obtain ⟨ds, l6, k6, m6, z6, r6⟩ := open_dsks f6
    simp only [List.cons.injEq, and_true] at e0 e1 e2
    subst e0
    subst e1
    subst e2
    exact ⟨⟨x0, x1, x2, ⟨a3, n3, c3⟩, ⟨a4, n4, c4⟩, ⟨a5, n5, c5⟩, ⟨a6, n6, c6⟩⟩, ⟨x0, x1, x2, ts, ls, ss, ds⟩, rfl, rfl, rfl, rfl, ⟨l3, k3, z3, fun b _ _ _ => .inl (Nat.zero_le b), r3⟩, ⟨l4, k4, z4, fun b _ _ _ => .inl (Nat.zero_le b), r4⟩, ⟨l5, k5, z5, fun b _ _ _ => .inl (Nat.zero_le b), r5⟩, ⟨l6, k6, z6, fun b _ _ _ => .inl (Nat.zero_le b), r6⟩⟩
end Go.Proofs.Ytoofmofaimdhpaa

namespace Go.Proofs.Ytoofmofaimdhpaa
open Go.ChangeShapes Go.WideShapes Go.ChangeAt Go.RowKit
set_option maxRecDepth 100000

def greatB (s : St) : Bool := decide (60 < s.tens.length ∨ 100 < s.leas.length ∨ 60 < s.sess.length ∨ 60 < s.dsks.length)
set_option maxHeartbeats 1000000 in
theorem great_st (s : St) (r : Raw) (B : Nat) (w : World) (h : StAt w B r s) : Calls Try.prog 9 #[r.agg] w fun e w' => e = .returned (.bool (greatB s)) ∧ Below w.heap.size w w' := by
  obtain ⟨term, stamp, next, ⟨a1, n1, c1⟩, ⟨a2, n2, c2⟩, ⟨a3, n3, c3⟩, ⟨a4, n4, c4⟩⟩ := r
  have h1 : s.tens.length = n1 := h.ten.len
  have h2 : s.leas.length = n2 := h.lea.len
  have h3 : s.sess.length = n3 := h.ses.len
  have h4 : s.dsks.length = n4 := h.dsk.len
  have HG : Hid (greatB s = decide (60 < n1 ∨ 100 < n2 ∨ 60 < n3 ∨ 60 < n4)) := by show _ = _; unfold greatB; rw [h1, h2, h3, h4]
  generalize greatB s = res at HG ⊢
  clear h h1 h2 h3 h4
  by_cases g1 : 60 < n1
  · have d1 : decide ((60 : Int) < (n1 : Int)) = true := decide_eq_true (by omega)
    go_enter Try.func9, Try.ntmps9
    go_wp2
    go_returns
    exact ⟨ret_bool (by rw [HG.out]; first | (symm; exact decide_eq_true (by omega)) | (rw [Bool.eq_iff_iff]; simp only [decide_eq_true_iff, decide_true, decide_false]; omega) | (rw [Bool.eq_iff_iff]; simp; omega) | (simp; omega)), (by repeat' (first | (with_reducible exact Below.refl _ _) | (with_reducible assumption) | (with_reducible refine Below.drew ?_) | (with_reducible refine Below.more ?_ _) | (with_reducible refine Below.put ?_ ?_ _) | (with_reducible refine Below.next ?_ (by with_reducible assumption)) | (with_reducible exact Nat.le_refl _) | (with_reducible refine Below.size' ?_) | omega))⟩
  · by_cases g2 : 100 < n2
    · go_enter Try.func9, Try.ntmps9
      go_wp2
      go_returns
      exact ⟨ret_bool (by rw [HG.out]; first | (symm; exact decide_eq_true (by omega)) | (rw [Bool.eq_iff_iff]; simp only [decide_eq_true_iff, decide_true, decide_false]; omega) | (rw [Bool.eq_iff_iff]; simp; omega) | (simp; omega)), (by repeat' (first | (with_reducible exact Below.refl _ _) | (with_reducible assumption) | (with_reducible refine Below.drew ?_) | (with_reducible refine Below.more ?_ _) | (with_reducible refine Below.put ?_ ?_ _) | (with_reducible refine Below.next ?_ (by with_reducible assumption)) | (with_reducible exact Nat.le_refl _) | (with_reducible refine Below.size' ?_) | omega))⟩
    · by_cases g3 : 60 < n3
      · go_enter Try.func9, Try.ntmps9
        go_wp2
        go_returns
        exact ⟨ret_bool (by rw [HG.out]; first | (symm; exact decide_eq_true (by omega)) | (rw [Bool.eq_iff_iff]; simp only [decide_eq_true_iff, decide_true, decide_false]; omega) | (rw [Bool.eq_iff_iff]; simp; omega) | (simp; omega)), (by repeat' (first | (with_reducible exact Below.refl _ _) | (with_reducible assumption) | (with_reducible refine Below.drew ?_) | (with_reducible refine Below.more ?_ _) | (with_reducible refine Below.put ?_ ?_ _) | (with_reducible refine Below.next ?_ (by with_reducible assumption)) | (with_reducible exact Nat.le_refl _) | (with_reducible refine Below.size' ?_) | omega))⟩
      · by_cases g4 : 60 < n4
        · go_enter Try.func9, Try.ntmps9
          go_wp2
          go_returns
          exact ⟨ret_bool (by rw [HG.out]; first | (symm; exact decide_eq_true (by omega)) | (rw [Bool.eq_iff_iff]; simp only [decide_eq_true_iff, decide_true, decide_false]; omega) | (rw [Bool.eq_iff_iff]; simp; omega) | (simp; omega)), (by repeat' (first | (with_reducible exact Below.refl _ _) | (with_reducible assumption) | (with_reducible refine Below.drew ?_) | (with_reducible refine Below.more ?_ _) | (with_reducible refine Below.put ?_ ?_ _) | (with_reducible refine Below.next ?_ (by with_reducible assumption)) | (with_reducible exact Nat.le_refl _) | (with_reducible refine Below.size' ?_) | omega))⟩
        · go_enter Try.func9, Try.ntmps9
          go_wp2
          go_returns
          exact ⟨ret_bool (by rw [HG.out]; first | (symm; exact decide_eq_false (by omega)) | (rw [Bool.eq_iff_iff]; simp only [decide_eq_true_iff, decide_true, decide_false]; omega) | (rw [Bool.eq_iff_iff]; simp; omega) | (simp; omega)), (by repeat' (first | (with_reducible exact Below.refl _ _) | (with_reducible assumption) | (with_reducible refine Below.drew ?_) | (with_reducible refine Below.more ?_ _) | (with_reducible refine Below.put ?_ ?_ _) | (with_reducible refine Below.next ?_ (by with_reducible assumption)) | (with_reducible exact Nat.le_refl _) | (with_reducible refine Below.size' ?_) | omega))⟩
end Go.Proofs.Ytoofmofaimdhpaa

/- A drawn region: an operation that its guard strikes may be taken first. -/
namespace Go.Proofs.Ytoofmofaimdhpaa
open Go

section
variable {P : Program} {ops : Array Oper} {Q : Exit → Act → World → Prop} {md : Region.Mode} {S : World → Prop}
theorem wpAnyH_skip (i : Nat) (d : Option Tmp) {fuel : Nat} {listed : Array Bool} {a : Act} {w : World} (hi : (ops[i]?).map (fun o => o.dst) = some d)
    (hs : Region.noSelect ops = true) (hf : Region.free md ops listed i = true) (hr : (Region.ready md ops listed).contains i = true)
    (hQ : ∀ c a w, Q (.panic c) (a.put d undef) w → Q (.panic c) a w) (hw : (ops[i]?).map (fun o => Region.wanted o (yielded ops a.tmps)) = some false) (hS : S w)
    (h : wpAnyH P md ops Q S fuel (listed.setIfInBounds i true) (a.put d undef) w) : wpAnyH P md ops Q S (fuel + 1) listed a w := by
  cases ho : ops[i]? with
  | none => rw [ho] at hi; cases hi
  | some o =>
    rw [ho, Option.map_some] at hi hw
    obtain rfl := Option.some.inj hi
    exact wpAnyH_take ho hs hf hr hQ (Or.inr ⟨Option.some.inj hw, rfl⟩) hS h
end
end Go.Proofs.Ytoofmofaimdhpaa

namespace Go.Proofs.Ytoofmofaimdhpaa
open Go.ChangeShapes Go.WideShapes Go.ChangeAt Go.RowKit
set_option maxRecDepth 100000

theorem teq_run (t u : Tenant) (w : World) : (Op.equalIn 10000 55 t.agg u.agg).run Try.prog w = .ok (decide (t = u)) w := by
  obtain ⟨t0, t1, t2, t3, t4⟩ := t
  obtain ⟨u0, u1, u2, u3, u4⟩ := u
  have hp : Try.prog.stoodInHeld 55 = false := by kernel_rfl
  have hi := fun (d : Nat) (a b : Int) (w : World) => run_equalIn_int (P := Try.prog) w d 3 .i64 .i64 a b Try.underlying3
  have hb := fun (d : Nat) (a b : Bool) (w : World) => run_equalIn_bool' (P := Try.prog) w d 4 a b Try.underlying4
  simp [go_sem, hp, hi, hb]
  by_cases e0 : t0 = u0 <;> by_cases e1 : t1 = u1 <;> by_cases e2 : t2 = u2 <;> by_cases e3 : t3 = u3 <;> by_cases e4 : t4 = u4 <;> simp [e0, e1, e2, e3, e4]
theorem tneq_run (t u : Tenant) (w : World) : (binOp .neq 55 t.agg u.agg).run Try.prog w = .ok (.bool (!decide (t = u))) w := by
  rw [run_neq_struct, teq_run]; rfl
set_option maxHeartbeats 1000000 in
theorem same_any (ts us : List Tenant) (a b : Option Addr) (n c m d : Nat) (w : World) (hn : ts.length = n) (hm : us.length = m) (hl : ts.length ≤ maxLen) (hl2 : us.length ≤ maxLen) (hr : TRow w a ts) (hs : TRow w b us) :
    Calls Try.prog 40 #[.slice a n c, .slice b m d] w fun e w' => e = .returned (.bool (decide (ts = us))) ∧ Below w.heap.size w w' := by
  subst hn; subst hm
  have hl3 := lt_maxLen hl
  have hl4 := lt_maxLen hl2
  by_cases hlen : ts.length = us.length
  · have HLEN := Lib.hid hlen
    rw [hlen]
    clear hlen hl hl2 hl3
    have HNEQ := Lib.hid tneq_run
    go_enter Try.func40, Try.ntmps40
    go_wp2
    go_loopw [5] (fun i wr => ∃ k : Nat, k ≤ us.length ∧ i = .int .i64 k ∧ ts.take k = us.take k ∧ Below w.heap.size w wr) (fun i _ => us.length - (intOf i).toNat)
    case atStart => exact ⟨0, by omega, rfl, rfl, Below.refl _ _⟩
    case round =>
      obtain ⟨k, hk, rfl, htk, hb⟩ := hrel
      have HTK := Lib.hid htk
      clear htk
      by_cases hlt : k < us.length
      · have hlt2 : k < ts.length := by rw [HLEN.out]; exact hlt
        obtain ⟨b1, o1, rfl, hcs⟩ := hr.at hlt2
        obtain ⟨h0, h1, h2, h3, h4⟩ := hcs _ hb
        obtain ⟨b2, o2, rfl, hds⟩ := hs.at hlt
        obtain ⟨g0, g1, g2, g3, g4⟩ := hds _ hb
        clear hcs hds
        have hneq := fun w => HNEQ.out ts[k] us[k] w
        cases he : decide (ts[k] = us[k]) with
        | true =>
          have HE := Lib.hid (of_decide_eq_true he)
          rw [he] at hneq
          clear he
          go_wp2
          go_quiet (fail)
          go_wp2
          go_roundw
          case rel => exact ⟨k + 1, by omega, by go_num, by rw [List.take_succ_eq_append_getElem hlt2, List.take_succ_eq_append_getElem hlt, HTK.out, HE.out], below_drewN hb _⟩
          case measure => simp [intOf]; omega
        | false =>
          have HE := Lib.hid (of_decide_eq_false he)
          rw [he] at hneq
          clear he
          go_wp2
          go_quiet (fail)
          go_wp2
          go_returns
          exact ⟨ret_bool (decide_eq_false (fun h => HE.out (by subst h; rfl))).symm, below_drewN hb _⟩
      · go_wp2
        go_returns
        have h := HTK.out
        rw [List.take_of_length_le (by rw [HLEN.out]; omega), List.take_of_length_le (by omega)] at h
        exact ⟨ret_bool (decide_eq_true h).symm, hb⟩
  · have hne : ((ts.length : Int) != (us.length : Int)) = true := by simp; omega
    have HD : Hid (decide (ts = us) = false) := decide_eq_false (fun h => hlen (by rw [h]))
    generalize decide (ts = us) = res at HD ⊢
    have hlen2 : ¬ ts.length = us.length := hlen
    clear hlen
    go_enter Try.func40, Try.ntmps40
    go_wp2
    go_returns
    exact ⟨ret_bool HD.out.symm, Below.refl _ _⟩
end Go.Proofs.Ytoofmofaimdhpaa

namespace Go.Proofs.Ytoofmofaimdhpaa
open Go.ChangeShapes Go.WideShapes Go.ChangeAt Go.RowKit
set_option maxRecDepth 100000

set_option maxHeartbeats 8000000 in
/-- Two states that read alike are the same. -/
theorem same_st (s : St) (r q : Raw) (B B' : Nat) (w : World) (h : StAt w B r s) (h' : StAt w B' q s) (hl1 : s.tens.length ≤ 900) (hl2 : s.leas.length ≤ 900) (hl3 : s.sess.length ≤ 900) (hl4 : s.dsks.length ≤ 900) :
    Calls Try.prog 13 #[r.agg, q.agg] w fun e w' => e = .returned (.bool true) ∧ Below w.heap.size w w' := by
  obtain ⟨term, stamp, next, ⟨a1, n1, c1⟩, ⟨a2, n2, c2⟩, ⟨a3, n3, c3⟩, ⟨a4, n4, c4⟩⟩ := r
  obtain ⟨term', stamp', next', ⟨b1, m1, d1⟩, ⟨b2, m2, d2⟩, ⟨b3, m3, d3⟩, ⟨b4, m4, d4⟩⟩ := q
  have e1 : term = term' := h.term.trans h'.term.symm
  have e2 : stamp = stamp' := h.stamp.trans h'.stamp.symm
  have e3 : next = next' := h.next.trans h'.next.symm
  subst e1 e2 e3
  obtain rfl : s.tens.length = n1 := h.ten.len
  obtain rfl : s.leas.length = n2 := h.lea.len
  obtain rfl : s.sess.length = n3 := h.ses.len
  obtain rfl : s.dsks.length = n4 := h.dsk.len
  obtain rfl : s.tens.length = m1 := h'.ten.len
  obtain rfl : s.leas.length = m2 := h'.lea.len
  obtain rfl : s.sess.length = m3 := h'.ses.len
  obtain rfl : s.dsks.length = m4 := h'.dsk.len
  have hm := le_maxLen (show s.tens.length ≤ 1048576 by omega)
  have HSM := Lib.hid (fun w' (hb : Below w.heap.size w w') => same_any s.tens s.tens a1 b1 s.tens.length c1 s.tens.length d1 w' rfl rfl hm hm (Row.below h.trow hb) (Row.below h'.trow hb))
  have RL := Lib.hid (And.intro h.lea.row h'.lea.row)
  have RS := Lib.hid (And.intro h.ses.row h'.ses.row)
  have RD := Lib.hid (And.intro h.dsk.row h'.dsk.row)
  have NL := Lib.hid neqLea_run
  have NS := Lib.hid neqSes_run
  have ND := Lib.hid neqDsk_run
  clear h h'
  have HBX : Hid (∀ w', Below (w.heap.size + 2) ((w.alloc (.cells #[.int .i64 term, .int .i64 stamp, .int .i64 next, .slice a1 s.tens.length c1, .slice a2 s.leas.length c2, .slice a3 s.sess.length c3, .slice a4 s.dsks.length c4] 27)).alloc (.cells #[.int .i64 term, .int .i64 stamp, .int .i64 next, .slice b1 s.tens.length d1, .slice b2 s.leas.length d2, .slice b3 s.sess.length d3, .slice b4 s.dsks.length d4] 27)) w' → Box w' w.heap.size (Raw.cells ⟨term, stamp, next, ⟨a1, s.tens.length, c1⟩, ⟨a2, s.leas.length, c2⟩, ⟨a3, s.sess.length, c3⟩, ⟨a4, s.dsks.length, c4⟩⟩) ∧ Box w' (w.heap.size + 1) (Raw.cells ⟨term, stamp, next, ⟨b1, s.tens.length, d1⟩, ⟨b2, s.leas.length, d2⟩, ⟨b3, s.sess.length, d3⟩, ⟨b4, s.dsks.length, d4⟩⟩)) := fun w' hb0 => by
    have e : ((w.alloc (.cells #[.int .i64 term, .int .i64 stamp, .int .i64 next, .slice a1 s.tens.length c1, .slice a2 s.leas.length c2, .slice a3 s.sess.length c3, .slice a4 s.dsks.length c4] 27)).alloc (.cells #[.int .i64 term, .int .i64 stamp, .int .i64 next, .slice b1 s.tens.length d1, .slice b2 s.leas.length d2, .slice b3 s.sess.length d3, .slice b4 s.dsks.length d4] 27)).heap.size = w.heap.size + 2 := by simp
    rw [← e] at hb0
    exact ⟨Box.of_alloc (mid_alloc' hb0), Box.of_alloc1 hb0⟩
  have hbw : Below w.heap.size w ((w.alloc (.cells #[.int .i64 term, .int .i64 stamp, .int .i64 next, .slice a1 s.tens.length c1, .slice a2 s.leas.length c2, .slice a3 s.sess.length c3, .slice a4 s.dsks.length c4] 27)).alloc (.cells #[.int .i64 term, .int .i64 stamp, .int .i64 next, .slice b1 s.tens.length d1, .slice b2 s.leas.length d2, .slice b3 s.sess.length d3, .slice b4 s.dsks.length d4] 27)) := (by repeat' (first | (with_reducible exact Below.refl _ _) | (with_reducible assumption) | (with_reducible refine Below.drew ?_) | (with_reducible refine Below.more ?_ _) | (with_reducible refine Below.put ?_ ?_ _) | (with_reducible refine Below.next ?_ (by with_reducible assumption)) | (with_reducible exact Nat.le_refl _) | (with_reducible refine Below.size' ?_) | omega))
  have BW := Lib.hid hbw
  clear hbw
  go_enter Try.func13, Try.ntmps13
  go_wp2_with (go_at_call 40; ((with_reducible refine (HSM.out _ (by repeat' (first | (with_reducible exact Below.refl _ _) | (with_reducible assumption) | (with_reducible refine Below.drew ?_) | (with_reducible refine Below.more ?_ _) | (with_reducible refine Below.put ?_ ?_ _) | (with_reducible refine Below.next ?_ (by with_reducible assumption)) | (with_reducible exact Nat.le_refl _) | (with_reducible refine Below.size' ?_) | omega))).mono ?_); rw [decide_eq_true (rfl : s.tens = s.tens)]; rintro e w3 ⟨rfl, hb3⟩; have HB3 : Hid (Below (w.heap.size + 2) ((w.alloc (.cells #[.int .i64 term, .int .i64 stamp, .int .i64 next, .slice a1 s.tens.length c1, .slice a2 s.leas.length c2, .slice a3 s.sess.length c3, .slice a4 s.dsks.length c4] 27)).alloc (.cells #[.int .i64 term, .int .i64 stamp, .int .i64 next, .slice b1 s.tens.length d1, .slice b2 s.leas.length d2, .slice b3 s.sess.length d3, .slice b4 s.dsks.length d4] 27)) w3) := (show Below (w.heap.size + 2) ((w.alloc (.cells #[.int .i64 term, .int .i64 stamp, .int .i64 next, .slice a1 s.tens.length c1, .slice a2 s.leas.length c2, .slice a3 s.sess.length c3, .slice a4 s.dsks.length c4] 27)).alloc (.cells #[.int .i64 term, .int .i64 stamp, .int .i64 next, .slice b1 s.tens.length d1, .slice b2 s.leas.length d2, .slice b3 s.sess.length d3, .slice b4 s.dsks.length d4] 27)) w3 from (Below.mono hb3 (by simp))); clear hb3))
  go_loopw [5] (fun i wr => ∃ k : Nat, k ≤ s.leas.length ∧ i = .int .i64 k ∧ Below (w.heap.size + 2) ((w.alloc (.cells #[.int .i64 term, .int .i64 stamp, .int .i64 next, .slice a1 s.tens.length c1, .slice a2 s.leas.length c2, .slice a3 s.sess.length c3, .slice a4 s.dsks.length c4] 27)).alloc (.cells #[.int .i64 term, .int .i64 stamp, .int .i64 next, .slice b1 s.tens.length d1, .slice b2 s.leas.length d2, .slice b3 s.sess.length d3, .slice b4 s.dsks.length d4] 27)) wr) (fun i _ => s.leas.length - (intOf i).toNat)
  case atStart => exact ⟨0, by omega, rfl, HB3.out⟩
  case round =>
    obtain ⟨k, hk, rfl, hb0⟩ := hrel
    have hb : Below w.heap.size w wr := BW.out.trans (hb0.mono (by omega))
    have HB0 := Lib.hid hb0
    obtain ⟨hxa, hxb⟩ := HBX.out wr hb0
    have p4 := hxa.cell (j := 4) rfl
    have q4 := hxb.cell (j := 4) rfl
    clear hxa hxb
    by_cases hlt : k < s.leas.length
    · obtain ⟨b, o, ha, hcs⟩ := atLea RL.out.1 hlt
      obtain ⟨b', o', ha', hcs'⟩ := atLea RL.out.2 hlt
      subst ha
      subst ha'
      have hx := hcs _ hb
      have hy := hcs' _ hb
      have hneq := fun w => NL.out s.leas[k] s.leas[k] w
      rw [decide_eq_true rfl] at hneq
      generalize s.leas[k] = x at hx hy hneq
      clear hcs hcs'
      go_wp2
      go_quiet (fail)
      go_wp2
      go_roundw
      case rel => exact ⟨k + 1, by omega, by go_num, below_drewN HB0.out _⟩
      case measure => simp [intOf]; omega
    · obtain rfl : k = s.leas.length := by omega
      skip
      go_wp2
      go_loopw [6] (fun i wr => ∃ k : Nat, k ≤ s.sess.length ∧ i = .int .i64 k ∧ Below (w.heap.size + 2) ((w.alloc (.cells #[.int .i64 term, .int .i64 stamp, .int .i64 next, .slice a1 s.tens.length c1, .slice a2 s.leas.length c2, .slice a3 s.sess.length c3, .slice a4 s.dsks.length c4] 27)).alloc (.cells #[.int .i64 term, .int .i64 stamp, .int .i64 next, .slice b1 s.tens.length d1, .slice b2 s.leas.length d2, .slice b3 s.sess.length d3, .slice b4 s.dsks.length d4] 27)) wr) (fun i _ => s.sess.length - (intOf i).toNat)
      case atStart => exact ⟨0, by omega, rfl, HB0.out⟩
      case round =>
        obtain ⟨k, hk, rfl, hb0⟩ := hrel
        have hb : Below w.heap.size w wr := BW.out.trans (hb0.mono (by omega))
        have HB0 := Lib.hid hb0
        obtain ⟨hxa, hxb⟩ := HBX.out wr hb0
        have p5 := hxa.cell (j := 5) rfl
        have q5 := hxb.cell (j := 5) rfl
        clear hxa hxb
        by_cases hlt : k < s.sess.length
        · obtain ⟨b, o, ha, hcs⟩ := atSes RS.out.1 hlt
          obtain ⟨b', o', ha', hcs'⟩ := atSes RS.out.2 hlt
          subst ha
          subst ha'
          have hx := hcs _ hb
          have hy := hcs' _ hb
          have hneq := fun w => NS.out s.sess[k] s.sess[k] w
          rw [decide_eq_true rfl] at hneq
          generalize s.sess[k] = x at hx hy hneq
          clear hcs hcs'
          go_wp2
          go_quiet (fail)
          go_wp2
          go_roundw
          case rel => exact ⟨k + 1, by omega, by go_num, below_drewN HB0.out _⟩
          case measure => simp [intOf]; omega
        · obtain rfl : k = s.sess.length := by omega
          skip
          go_wp2
          go_loopw [7] (fun i wr => ∃ k : Nat, k ≤ s.dsks.length ∧ i = .int .i64 k ∧ Below (w.heap.size + 2) ((w.alloc (.cells #[.int .i64 term, .int .i64 stamp, .int .i64 next, .slice a1 s.tens.length c1, .slice a2 s.leas.length c2, .slice a3 s.sess.length c3, .slice a4 s.dsks.length c4] 27)).alloc (.cells #[.int .i64 term, .int .i64 stamp, .int .i64 next, .slice b1 s.tens.length d1, .slice b2 s.leas.length d2, .slice b3 s.sess.length d3, .slice b4 s.dsks.length d4] 27)) wr) (fun i _ => s.dsks.length - (intOf i).toNat)
          case atStart => exact ⟨0, by omega, rfl, HB0.out⟩
          case round =>
            obtain ⟨k, hk, rfl, hb0⟩ := hrel
            have hb : Below w.heap.size w wr := BW.out.trans (hb0.mono (by omega))
            have HB0 := Lib.hid hb0
            obtain ⟨hxa, hxb⟩ := HBX.out wr hb0
            have p6 := hxa.cell (j := 6) rfl
            have q6 := hxb.cell (j := 6) rfl
            clear hxa hxb
            by_cases hlt : k < s.dsks.length
            · obtain ⟨b, o, ha, hcs⟩ := atDsk RD.out.1 hlt
              obtain ⟨b', o', ha', hcs'⟩ := atDsk RD.out.2 hlt
              subst ha
              subst ha'
              have hx := hcs _ hb
              have hy := hcs' _ hb
              have hneq := fun w => ND.out s.dsks[k] s.dsks[k] w
              rw [decide_eq_true rfl] at hneq
              generalize s.dsks[k] = x at hx hy hneq
              clear hcs hcs'
              go_wp2
              go_quiet (fail)
              go_wp2
              go_roundw
              case rel => exact ⟨k + 1, by omega, by go_num, below_drewN HB0.out _⟩
              case measure => simp [intOf]; omega
            · obtain rfl : k = s.dsks.length := by omega
              skip
              go_wp2
              go_returns
              exact ⟨rfl, hb⟩
end Go.Proofs.Ytoofmofaimdhpaa

namespace Go.Proofs.Ytoofmofaimdhpaa
open Go.ChangeShapes Go.WideShapes Go.ChangeAt Go.RowKit
set_option maxRecDepth 100000

set_option maxHeartbeats 2000000 in
theorem refsweep_any (ts : List Tenant) (outs : List Int) (a b : Option Addr) (n c m d : Nat) (w : World) (hn : ts.length = n) (hm : outs.length = m) (hl : ts.length ≤ 900) (hlo : m ≤ 1000) (hc : a = none → c = 0) (hnc : n ≤ c) (hr : TRow w a ts) (hro : Row w b (outs.map (Value.int .i64))) :
    Calls Try.prog 72 #[.slice a n c, .slice b m d] w (RetT w a (sweepS ts outs)) := by
  subst hn
  subst hm
  have hmax : ts.length ≤ maxLen := le_maxLen (by omega)
  have HS : Hid (sweepS ts outs = if tensOk 0 ts = true then ts.filter (fun x => !goneP outs x) else ts) := rfl
  generalize sweepS ts outs = res at HS ⊢
  cases h1 : tensOk 0 ts with
  | false =>
    have H1 := Lib.hid h1
    have HO : Hid (res = ts) := by rw [HS.out, if_neg (by rw [h1]; simp)]; exact rfl
    clear h1 HS
    go_enter Try.func72, Try.ntmps72
    go_wp2_with (first
      | (go_at_call 43; ((with_reducible refine (refcheck_any ts a _ _ _ rfl hmax (hr.below (by repeat' (first | (with_reducible exact Below.refl _ _) | (with_reducible assumption) | (with_reducible refine Below.drew ?_) | (with_reducible refine Below.more ?_ _) | (with_reducible refine Below.put ?_ ?_ _) | (with_reducible refine Below.next ?_ (by with_reducible assumption)) | (with_reducible exact Nat.le_refl _) | (with_reducible refine Below.size' ?_) | omega)))).mono ?_); rw [H1.out]; rintro e w3 ⟨rfl, hb3⟩)))
    go_returns
    exact ⟨a, c, by rw [HO.out]; rfl, by rw [HO.out]; exact hnc, hc, Near.self _ _, by rw [HO.out]; exact hr.below (by repeat' (first | (with_reducible exact Below.refl _ _) | (with_reducible assumption) | (with_reducible refine Below.drew ?_) | (with_reducible refine Below.more ?_ _) | (with_reducible refine Below.put ?_ ?_ _) | (with_reducible refine Below.next ?_ (by with_reducible assumption)) | (with_reducible exact Nat.le_refl _) | (with_reducible refine Below.size' ?_) | omega)), (by repeat' (first | (with_reducible exact Below.refl _ _) | (with_reducible assumption) | (with_reducible refine Below.drew ?_) | (with_reducible refine Below.more ?_ _) | (with_reducible refine Below.put ?_ ?_ _) | (with_reducible refine Below.next ?_ (by with_reducible assumption)) | (with_reducible exact Nat.le_refl _) | (with_reducible refine Below.size' ?_) | omega))⟩
  | true =>
    have H1 := Lib.hid h1
    have HID : Hid (∀ x ∈ ts, 1 ≤ x.id ∧ x.id ≤ 16) := fun x hx => by
      have h2 := (tensOk_iff.1 h1).1 x hx
      have h3 := h2.2
      unfold okT at h3
      simp only [Bool.and_eq_true, decide_eq_true_eq] at h3
      exact ⟨by omega, h3.1.1.1⟩
    have HO : Hid (res = ts.filter (fun x => !goneP outs x)) := by rw [HS.out, if_pos h1]; exact rfl
    clear h1 HS
    generalize hq : (fun x => !goneP outs x) = q at HO
    have HQ := Lib.hid hq
    clear hq
    go_enter Try.func72, Try.ntmps72
    go_wp2_with (first
      | (go_at_call 43; ((with_reducible refine (refcheck_any ts a _ _ _ rfl hmax (hr.below (by repeat' (first | (with_reducible exact Below.refl _ _) | (with_reducible assumption) | (with_reducible refine Below.drew ?_) | (with_reducible refine Below.more ?_ _) | (with_reducible refine Below.put ?_ ?_ _) | (with_reducible refine Below.next ?_ (by with_reducible assumption)) | (with_reducible exact Nat.le_refl _) | (with_reducible refine Below.size' ?_) | omega)))).mono ?_); rw [H1.out]; rintro e w3 ⟨rfl, hb3⟩)))
    go_loopw [5, 6] (fun out i wr => ∃ k : Nat, ∃ a' c', k ≤ ts.length ∧ i = .int .i64 k ∧ out = .slice a' ((ts.take k).filter q).length c' ∧ wr.ownsRow w.heap.size 55 5 (.slice a' ((ts.take k).filter q).length c') ((ts.take k).filter q).length (((ts.take k).filter q).flatMap Tenant.cells) ∧ Below w.heap.size w wr) (fun _ i _ => ts.length - (intOf i).toNat)
    case atStart => exact ⟨0, none, 0, by omega, rfl, rfl, World.ownsRow_nil _ _ _ _, hb3⟩
    case round =>
      obtain ⟨k, a', c', hk, rfl, rfl, hown, hb⟩ := hrel
      by_cases hlt : k < ts.length
      · obtain ⟨b1, o1, rfl, hcs⟩ := hr.at hlt
        obtain ⟨h0, h1, h2, h3, h4⟩ := hcs _ hb
        obtain ⟨hid1, hid2⟩ := HID.out ts[k] (List.getElem_mem hlt)
        clear hcs
        have HTK : Hid (ts.take (k + 1) = ts.take k ++ [ts[k]]) := List.take_succ_eq_append_getElem hlt
        have hfl : ((ts.take k).filter q).length ≤ k := by
          have := List.length_filter_le q (ts.take k)
          rw [List.length_take] at this; omega
        have HQK : Hid (q ts[k] = !(ts[k].gone && decide (outOf outs ts[k].id ≤ 0))) := by show _ = _; rw [← HQ.out]; rfl
        have HN : Hid (q ts[k] = false → (ts.take (k + 1)).filter q = (ts.take k).filter q) := fun h => by rw [HTK.out, List.filter_append]; simp [h]
        have HY : Hid (q ts[k] = true → (ts.take (k + 1)).filter q = (ts.take k).filter q ++ [ts[k]]) := fun h => by rw [HTK.out, List.filter_append]; simp [h]
        generalize hx : ts[k] = x at h0 h1 h2 h3 h4 hid1 hid2 HQK HN HY
        clear hx HTK
        obtain ⟨id, rate, burst, bucket, gone⟩ := x
        simp only at h0 h1 h2 h3 h4 hid1 hid2
        by_cases hfar : (outs.length : Int) < id
        · have hlt8 : decide (id - 1 < (outs.length : Int)) = false := decide_eq_false (by omega)
          cases gone with
          | false =>
            have HGP : Hid ((false && decide (outOf outs id ≤ 0)) = false) := rfl
            have HF := Lib.hid (HY.out (by rw [HQK.out]; exact congrArg (fun b => !b) HGP.out))
            go_wp2_with (at_builtin; refine wpList_app el_tenants rfl _ _ rfl w.heap.size _ ((ts.take k).filter q).length _ rfl (hown.alloc _) (some ⟨wr.heap.size, 0, none⟩) 1 1 (Tenant.cells ⟨id, rate, burst, bucket, false⟩) rfl rfl (Row.new _ _ _ _) (by intro u hu; simp at hu; rcases hu with rfl | rfl | rfl | rfl | rfl <;> rfl) (by omega) (by have := hb.size; simp; omega) ?_; intro a2 c2 w2 hown2 hg2; have hb2 := Below.app (hb.alloc hb.size _) (hown.alloc _) hg2 (by have := hb.size; simp; omega); clear hg2 h0 h1 h2 h3 h4)
            go_roundw
            case rel => exact ⟨k + 1, a2, c2, by omega, by go_num, by rw [HF.out]; simp, by rw [HF.out, List.length_append, List.flatMap_append]; simpa using hown2, hb2⟩
            case measure => simp [intOf]; omega
          | true =>
            have HGP : Hid ((true && decide (outOf outs id ≤ 0)) = true) := by show _ = _; rw [outOf_far hfar]; rfl
            have HF := Lib.hid (HN.out (by rw [HQK.out]; exact congrArg (fun b => !b) HGP.out))
            go_wp2
            go_roundw
            case rel => exact ⟨k + 1, a', c', by omega, by go_num, by rw [HF.out], by rw [HF.out]; exact hown, hb⟩
            case measure => simp [intOf]; omega
        · obtain ⟨j, hj, hj2, hj3⟩ := outOf_at (outs := outs) (id := id) (by omega) (by omega)
          obtain ⟨b5, o5, rfl, hcell⟩ := Row.getBelow hro (k := j) (by rw [List.getElem?_map, hj3]; rfl)
          have hcl := hcell _ hb
          obtain rfl : id = j + 1 := by omega
          generalize hov : outOf outs (j + 1) = ov at hcl HQK
          clear hcell hj3 hov hj2
          cases gone with
          | false =>
            have HGP : Hid ((false && decide (ov ≤ 0)) = false) := rfl
            have HF := Lib.hid (HY.out (by rw [HQK.out]; exact congrArg (fun b => !b) HGP.out))
            go_wp2_with (at_builtin; refine wpList_app el_tenants rfl _ _ rfl w.heap.size _ ((ts.take k).filter q).length _ rfl (hown.alloc _) (some ⟨wr.heap.size, 0, none⟩) 1 1 (Tenant.cells ⟨j + 1, rate, burst, bucket, false⟩) rfl rfl (Row.new _ _ _ _) (by intro u hu; simp at hu; rcases hu with rfl | rfl | rfl | rfl | rfl <;> rfl) (by omega) (by have := hb.size; simp; omega) ?_; intro a2 c2 w2 hown2 hg2; have hb2 := Below.app (hb.alloc hb.size _) (hown.alloc _) hg2 (by have := hb.size; simp; omega); clear hg2 h0 h1 h2 h3 h4)
            go_roundw
            case rel => exact ⟨k + 1, a2, c2, by omega, by go_num, by rw [HF.out]; simp, by rw [HF.out, List.length_append, List.flatMap_append]; simpa using hown2, hb2⟩
            case measure => simp [intOf]; omega
          | true =>
            by_cases hov : ov ≤ 0
            · have HGP : Hid ((true && decide (ov ≤ 0)) = true) := by show _ = _; rw [decide_eq_true hov]; rfl
              have hgt : decide (0 < ov) = false := decide_eq_false (by omega)
              have HF := Lib.hid (HN.out (by rw [HQK.out]; exact congrArg (fun b => !b) HGP.out))
              go_wp2
              go_roundw
              case rel => exact ⟨k + 1, a', c', by omega, by go_num, by rw [HF.out], by rw [HF.out]; exact hown, hb⟩
              case measure => simp [intOf]; omega
            · have HGP : Hid ((true && decide (ov ≤ 0)) = false) := by show _ = _; rw [decide_eq_false hov]; rfl
              have hgt : decide (0 < ov) = true := decide_eq_true (by omega)
              have HF := Lib.hid (HY.out (by rw [HQK.out]; exact congrArg (fun b => !b) HGP.out))
              go_wp2_with (at_builtin; refine wpList_app el_tenants rfl _ _ rfl w.heap.size _ ((ts.take k).filter q).length _ rfl (hown.alloc _) (some ⟨wr.heap.size, 0, none⟩) 1 1 (Tenant.cells ⟨j + 1, rate, burst, bucket, true⟩) rfl rfl (Row.new _ _ _ _) (by intro u hu; simp at hu; rcases hu with rfl | rfl | rfl | rfl | rfl <;> rfl) (by omega) (by have := hb.size; simp; omega) ?_; intro a2 c2 w2 hown2 hg2; have hb2 := Below.app (hb.alloc hb.size _) (hown.alloc _) hg2 (by have := hb.size; simp; omega); clear hg2 h0 h1 h2 h3 h4)
              go_roundw
              case rel => exact ⟨k + 1, a2, c2, by omega, by go_num, by rw [HF.out]; simp, by rw [HF.out, List.length_append, List.flatMap_append]; simpa using hown2, hb2⟩
              case measure => simp [intOf]; omega
      · have HT : Hid ((ts.take k).filter q = ts.filter q) := by show _ = _; rw [List.take_of_length_le (by omega)]
        go_wp2
        go_returns
        obtain ⟨_, _, hv, hle, _, hnone⟩ := own_slice hown
        simp only [Value.slice.injEq] at hv
        obtain ⟨rfl, _, rfl⟩ := hv
        exact ⟨a', c', by rw [HO.out, ← HT.out]; rfl, by rw [HO.out, ← HT.out]; exact hle, hnone, (Near.own hown (Nat.le_refl _)).trans' _, by rw [HO.out, ← HT.out]; exact own_row hown, hb⟩
end Go.Proofs.Ytoofmofaimdhpaa

namespace Go.Proofs.Ytoofmofaimdhpaa
open Go.ChangeShapes Go.WideShapes Go.ChangeAt Go.RowKit
set_option maxRecDepth 100000

set_option maxHeartbeats 4000000 in
theorem refout_any (ls : List Lease) (r : Raw) (id : Int) (w : World) (hl : ls.length = r.lea.n) (h64 : ls.length ≤ 1000) (hf : Fits ls) (hr : LRow layLea w r.lea.a ls) :
    Calls Try.prog 18 #[r.agg, .int .i64 id] w fun e w' => e = .returned (.int .i64 (outL ls id)) ∧ Below w.heap.size w w' := by
  obtain ⟨term, stamp, next, ⟨a1, n1, c1⟩, ⟨a, n, c⟩, ⟨a3, n3, c3⟩, ⟨a4, n4, c4⟩⟩ := r
  simp only at hl hr
  subst hl
  have HF := Lib.hid hf
  have HRG := Lib.hid (fun (k : Nat) (hk : k ≤ ls.length) => outL_range id (hf.sub (m := ls.take k) (fun x hx => List.mem_of_mem_take hx)))
  have HT := Lib.hid (fun k (h : k < ls.length) => outL_take h id)
  have HE : Hid (outL (ls.take ls.length) id = outL ls id) := by show _ = _; rw [List.take_length]
  generalize outL ls id = res at HE ⊢
  clear hf
  go_enter Try.func18, Try.ntmps18
  go_wp2
  go_loopw [5, 6] (fun z i wr => ∃ k : Nat, ∃ v : Int, k ≤ ls.length ∧ i = .int .i64 k ∧ z = .int .i64 v ∧ Hid (v = outL (ls.take k) id) ∧ Below (w.alloc (.cells #[.int .i64 term, .int .i64 stamp, .int .i64 next, .slice a1 n1 c1, .slice a ls.length c, .slice a3 n3 c3, .slice a4 n4 c4] 27)).heap.size (w.alloc (.cells #[.int .i64 term, .int .i64 stamp, .int .i64 next, .slice a1 n1 c1, .slice a ls.length c, .slice a3 n3 c3, .slice a4 n4 c4] 27)) wr) (fun _ i _ => ls.length - (intOf i).toNat)
  case atStart => exact ⟨0, 0, by omega, rfl, rfl, rfl, Below.refl _ _⟩
  case round =>
    obtain ⟨k, v, hk, rfl, rfl, hv, hb0⟩ := hrel
    have hb : Below w.heap.size w wr := mid_alloc' hb0
    have hbx : Box wr w.heap.size [.int .i64 term, .int .i64 stamp, .int .i64 next, .slice a1 n1 c1, .slice a ls.length c, .slice a3 n3 c3, .slice a4 n4 c4] := Box.of_alloc hb0
    have k4 := hbx.cell (j := 4) rfl
    clear hbx
    by_cases hlt : k < ls.length
    · have hR := HRG.out k hk
      have hlen : (ls.take k).length = k := by simp; omega
      rw [hlen, ← hv.out] at hR
      obtain ⟨hR1, hR2⟩ := hR
      have HT1 := Lib.hid (HT.out k hlt)
      have hX := HF.out ls[k] (List.getElem_mem hlt)
      obtain ⟨b, o, ha, hcs⟩ := atLea hr hlt
      subst ha
      have hx := hcs _ hb
      generalize ls[k] = x at hx HT1 hX
      clear hcs
      obtain ⟨xid, xten, xsh, xep, xnu, xsz, xsp⟩ := x
      obtain ⟨x0, x1, _, _, _, x5, x6⟩ := hx
      simp only at x1 x5 x6 hX
      obtain ⟨_, _, g1, g2, g3, g4⟩ := hX
      have HB := Lib.hid hb0
      by_cases he : xten = id
      · have hw1 : IntKind.i64.wrap (v + xsz) = v + xsz := IntWalk.i64_in _ ⟨by omega, by omega⟩
        have hw2 : IntKind.i64.wrap (v + xsz - xsp) = v + xsz - xsp := IntWalk.i64_in _ ⟨by omega, by omega⟩
        subst he
        go_wp2
        go_quiet (fail)
        go_wp2
        go_roundw
        case rel => exact ⟨k + 1, v + xsz - xsp, by omega, by go_num, rfl, by show _ = _; rw [HT1.out, ← hv.out]; simp; omega, below_drewN HB.out _⟩
        case measure => simp [intOf]; omega
      · go_wp2
        go_roundw
        case rel => exact ⟨k + 1, v, by omega, by go_num, rfl, by show _ = _; rw [HT1.out, ← hv.out]; simp [he], HB.out⟩
        case measure => simp [intOf]; omega
    · obtain rfl : k = ls.length := by omega
      go_wp2
      go_returns
      exact ⟨ret_int (hv.out.trans HE.out), hb⟩
end Go.Proofs.Ytoofmofaimdhpaa

namespace Go.Proofs.Ytoofmofaimdhpaa
open Go.ChangeShapes Go.WideShapes Go.ChangeAt Go.RowKit
set_option maxRecDepth 100000

set_option maxHeartbeats 4000000 in
theorem refswept_st (s : St) (r : Raw) (B : Nat) (w : World) (h : StAt w B r s) (hfit : Fits s.leas) (hl1 : s.tens.length ≤ 900) (hl2 : s.leas.length ≤ 900) (hB : B ≤ w.heap.size) :
    Calls Try.prog 39 #[r.agg] w (RetSt w B (sweptS s)) := by
  obtain ⟨term, stamp, next, ⟨a1, n1, c1⟩, ⟨a2, n2, c2⟩, ⟨a3, n3, c3⟩, ⟨a4, n4, c4⟩⟩ := r
  have HS := Lib.hid h
  have HOU := Lib.hid (fun id w' (hb : Below w.heap.size w w') => refout_any s.leas ⟨term, stamp, next, ⟨a1, n1, c1⟩, ⟨a2, n2, c2⟩, ⟨a3, n3, c3⟩, ⟨a4, n4, c4⟩⟩ id w' h.lea.len (by omega) hfit (h.lea.row.below hb))
  have HSW := Lib.hid (fun b m d w' (hb : Below w.heap.size w w') (hm : (outsL s.leas).length = m) (hro : Row w' b ((outsL s.leas).map (Value.int .i64))) => refsweep_any s.tens (outsL s.leas) a1 b n1 c1 m d w' h.ten.len hm hl1 (by rw [← hm, outsL_length]; omega) h.ten.nil h.ten.le (Row.below h.trow hb) hro)
  have HSE : Hid (∀ l, sweepS s.tens (outsL s.leas) = l → sweptS s = { s with tens := l }) := fun l e => by unfold sweptS; rw [e]
  have HBX : Hid (∀ w', Below (w.heap.size + 2) ((w.alloc (.cells #[.int .i64 term, .int .i64 stamp, .int .i64 next, .slice a1 n1 c1, .slice a2 n2 c2, .slice a3 n3 c3, .slice a4 n4 c4] 27)).alloc (.cells #[.int .i64 0, .int .i64 0, .int .i64 0, .slice none 0 0, .slice none 0 0, .slice none 0 0, .slice none 0 0] 27)) w' →
      Box w' w.heap.size (Raw.cells ⟨term, stamp, next, ⟨a1, n1, c1⟩, ⟨a2, n2, c2⟩, ⟨a3, n3, c3⟩, ⟨a4, n4, c4⟩⟩) ∧ Box w' (w.heap.size + 1) (Raw.cells ⟨0, 0, 0, ⟨none, 0, 0⟩, ⟨none, 0, 0⟩, ⟨none, 0, 0⟩, ⟨none, 0, 0⟩⟩) ∧ w.heap.size + 2 ≤ w'.heap.size) :=
    fun w' hb0 => by
      have hb : Below ((w.alloc (.cells #[.int .i64 term, .int .i64 stamp, .int .i64 next, .slice a1 n1 c1, .slice a2 n2 c2, .slice a3 n3 c3, .slice a4 n4 c4] 27)).alloc (.cells #[.int .i64 0, .int .i64 0, .int .i64 0, .slice none 0 0, .slice none 0 0, .slice none 0 0, .slice none 0 0] 27)).heap.size ((w.alloc (.cells #[.int .i64 term, .int .i64 stamp, .int .i64 next, .slice a1 n1 c1, .slice a2 n2 c2, .slice a3 n3 c3, .slice a4 n4 c4] 27)).alloc (.cells #[.int .i64 0, .int .i64 0, .int .i64 0, .slice none 0 0, .slice none 0 0, .slice none 0 0, .slice none 0 0] 27)) w' := by rw [show ((w.alloc (.cells #[.int .i64 term, .int .i64 stamp, .int .i64 next, .slice a1 n1 c1, .slice a2 n2 c2, .slice a3 n3 c3, .slice a4 n4 c4] 27)).alloc (.cells #[.int .i64 0, .int .i64 0, .int .i64 0, .slice none 0 0, .slice none 0 0, .slice none 0 0, .slice none 0 0] 27)).heap.size = w.heap.size + 2 from by simp]; exact hb0
      exact ⟨Box.of_alloc (mid_alloc' hb), Box.of_alloc1 hb, by have := hb.size; simp at this; omega⟩
  clear h hfit
  go_enter Try.func39, Try.ntmps39
  go_wp2
  go_loopw [3, 4] (fun l i wr => ∃ k : Nat, ∃ a c, k ≤ 16 ∧ i = .int .i64 ((k : Int) + 1) ∧ l = .slice a k c ∧ Hid (wr.ownsRow (w.heap.size + 2) 3 1 (.slice a k c) k ((outsK s.leas k).map (Value.int .i64))) ∧ Below (w.heap.size + 2) ((w.alloc (.cells #[.int .i64 term, .int .i64 stamp, .int .i64 next, .slice a1 n1 c1, .slice a2 n2 c2, .slice a3 n3 c3, .slice a4 n4 c4] 27)).alloc (.cells #[.int .i64 0, .int .i64 0, .int .i64 0, .slice none 0 0, .slice none 0 0, .slice none 0 0, .slice none 0 0] 27)) wr) (fun _ i _ => 17 - (intOf i).toNat)
  case atStart => exact ⟨0, none, 0, by omega, rfl, rfl, World.ownsRow_nil _ _ _ _, Below.refl _ _⟩
  case round =>
    obtain ⟨k, a, c, hk, rfl, rfl, hown, hb0⟩ := hrel
    have hb : Below w.heap.size w wr := ((show Below w.heap.size w ((w.alloc (.cells #[.int .i64 term, .int .i64 stamp, .int .i64 next, .slice a1 n1 c1, .slice a2 n2 c2, .slice a3 n3 c3, .slice a4 n4 c4] 27)).alloc (.cells #[.int .i64 0, .int .i64 0, .int .i64 0, .slice none 0 0, .slice none 0 0, .slice none 0 0, .slice none 0 0] 27)) from (by repeat' (first | (with_reducible exact Below.refl _ _) | (with_reducible assumption) | (with_reducible refine Below.drew ?_) | (with_reducible refine Below.more ?_ _) | (with_reducible refine Below.put ?_ ?_ _) | (with_reducible refine Below.next ?_ (by with_reducible assumption)) | (with_reducible exact Nat.le_refl _) | (with_reducible refine Below.size' ?_) | omega)))).trans (hb0.mono (by omega))
    have HXR := Lib.hid (HBX.out wr hb0)
    have hsz := HXR.out.2.2
    have HB0 := Lib.hid hb0
    by_cases hlt : k < 16
    · have hlt' : ((k : Int) + 1 ≤ 16) := by omega
      have HS1 := Lib.hid (outsK_succ s.leas k)
      have HO1 := Lib.hid (HOU.out ((k : Int) + 1))
      generalize outL s.leas ((k : Int) + 1) = z at HS1 HO1
      go_wp2_with (first
        | (refine wpList_load_as laySt rfl (.tmp 1) rfl w.heap.size 0 rfl ⟨term, stamp, next, ⟨a1, n1, c1⟩, ⟨a2, n2, c2⟩, ⟨a3, n3, c3⟩, ⟨a4, n4, c4⟩⟩ (.agg #[.int .i64 term, .int .i64 stamp, .int .i64 next, .slice a1 n1 c1, .slice a2 n2 c2, .slice a3 n3 c3, .slice a4 n4 c4]) rfl HXR.out.1.range ?_)
        | (go_at_call 18; ((with_reducible refine (HO1.out wr hb).mono ?_); rintro e w3 ⟨rfl, hb3⟩; have hsz3 := hb3.size; have HW3 := Lib.hid (own_mid hown.out (Mid.below hb3 (Nat.le_refl _) : Mid 0 wr.heap.size wr w3) (Nat.zero_le _) (Nat.le_refl _)); have HB3 := Lib.hid (HB0.out.trans (hb3.mono (by omega)))))
        | (at_builtin; refine wpList_app el_ints rfl _ _ rfl (w.heap.size + 2) _ k _ rfl (HW3.out.alloc _) (some ⟨w3.heap.size, 0, none⟩) 1 1 [.int .i64 z] rfl rfl (Row.new _ _ _ _) (by intro u hu; simp at hu; subst hu; rfl) (by omega) (by simp; omega) ?_; intro a2' c2' w4 hown4 hg4; have hb4 := Below.app (HB3.out.alloc (by omega) _) (HW3.out.alloc _) hg4 (by simp; omega); have HO4 := Lib.hid hown4; have HB4 := Lib.hid hb4; clear hg4 hown4 hb4))
      go_roundw
      case rel => exact ⟨k + 1, a2', c2', by omega, by go_num, rfl, by show World.ownsRow _ _ _ _ _ _ _; rw [HS1.out, List.map_append]; exact HO4.out, HB4.out⟩
      case measure => simp [intOf]; omega
    · obtain rfl : k = 16 := by omega
      have k3 := HXR.out.1.cell (j := 3) rfl
      obtain ⟨l, hl⟩ : ∃ l, sweepS s.tens (outsL s.leas) = l := ⟨_, rfl⟩
      have HL := Lib.hid hl
      clear hl
      go_wp2_with (first
        | (go_at_call 72; ((with_reducible refine (HSW.out a 16 c wr hb (outsL_length _) (by rw [← outsK_all]; exact own_row hown.out)).mono ?_); rw [HL.out]; rintro e w5 ⟨x1, y1, rfl, hle5, hnil5, hnear5, hrow5, hb5⟩; have K5 := Lib.hid (And.intro hle5 (And.intro hnil5 hrow5)); have hN5 := Lib.hid hnear5; clear hle5 hnil5 hnear5 hrow5; have HX5 := Lib.hid (HXR.out.1.next (by simp) hb5); have HZ5 := Lib.hid (HXR.out.2.1.next (by simp) hb5); have q5 := hb5.size; clear k3))
        | (refine wpList_store_field rfl (.tmp 21) (.tmp 20) rfl size1_slice.2.1 w.heap.size 3 _ (.slice x1 l.length y1) rfl rfl rfl rfl HX5.out (by simp) ?_; intro w6 hbx6 hw6; have HX6 : Hid (Box w6 w.heap.size (Raw.cells ⟨term, stamp, next, ⟨x1, l.length, y1⟩, ⟨a2, n2, c2⟩, ⟨a3, n3, c3⟩, ⟨a4, n4, c4⟩⟩)) := hbx6; have HW6 := Lib.hid hw6; have HZ6 := Lib.hid (HZ5.out.wrote hw6 (by omega)); have q6 := hw6.size; clear hbx6 hw6)
        | (refine wpList_load_as laySt rfl (.tmp 1) rfl w.heap.size 0 rfl ⟨term, stamp, next, ⟨x1, l.length, y1⟩, ⟨a2, n2, c2⟩, ⟨a3, n3, c3⟩, ⟨a4, n4, c4⟩⟩ (.agg #[.int .i64 term, .int .i64 stamp, .int .i64 next, .slice x1 l.length y1, .slice a2 n2 c2, .slice a3 n3 c3, .slice a4 n4 c4]) rfl HX6.out.range ?_)
        | (refine wpList_store_whole laySt rfl (.tmp 2) (.tmp 22) rfl (w.heap.size + 1) ⟨term, stamp, next, ⟨x1, l.length, y1⟩, ⟨a2, n2, c2⟩, ⟨a3, n3, c3⟩, ⟨a4, n4, c4⟩⟩ _ rfl rfl HZ6.out rfl ?_; intro w7 hbx7 hw7; have HX7 := Lib.hid hbx7; have HW7 := Lib.hid hw7; clear hbx7 hw7))
      have b5 : Below w.heap.size w w5 := hb.trans (hb5.mono (by omega))
      have b7 : Below w.heap.size w w7 := (b5.trans (HW6.out.below _ (Nat.le_refl _))).trans (HW7.out.below _ (by omega))
      obtain ⟨k0, k1, k2, k3, k4, k5, k6⟩ := cellsSt0 HX7.out.range
      refine bodyPost_ret (v := .agg #[.int .i64 term, .int .i64 stamp, .int .i64 next, .slice x1 l.length y1, .slice a2 n2 c2, .slice a3 n3 c3, .slice a4 n4 c4]) (by simp [results, Try.results39, go_sem, k0, k1, k2, k3, k4, k5, k6]) rfl ?_
      have i7 := (HS.out.below b7)
      refine ⟨⟨term, stamp, next, ⟨x1, l.length, y1⟩, ⟨a2, n2, c2⟩, ⟨a3, n3, c3⟩, ⟨a4, n4, c4⟩⟩, rfl, ?_, b7⟩
      rw [HSE.out l HL.out]
      refine ⟨i7.term, i7.stamp, i7.next, ⟨rfl, K5.out.1, K5.out.2.1, HS.out.ten.near.trans (hN5.out.mono (by omega)), ?_⟩, i7.lea, i7.ses, i7.dsk⟩
      -- the row of tenants is read behind the two writes into the variables
      have hr5 : LRow layTen w5 x1 l := K5.out.2.2
      by_cases h0 : l = []
      · rw [h0]; exact .inl rfl
      · have hpos : l.flatMap layTen.cells ≠ [] := by
          intro h1
          have h2 := congrArg List.length h1
          rw [layTen.length, List.length_nil] at h2
          rcases Nat.mul_eq_zero.1 h2 with h3 | h3
          · exact h0 (List.eq_nil_of_length_eq_zero h3)
          · cases h3
        rcases hr5 with h | ⟨b, o, ha, hc⟩
        · exact absurd h hpos
        · have hlen : l.length ≤ s.tens.length := by rw [← HL.out]; exact sweepS_length _ _
          have hne : b ≠ w.heap.size ∧ b ≠ w.heap.size + 1 := by
            rcases hN5.out b o none ha with h1 | ⟨o', q', h1⟩
            · omega
            · have h2 : b < w.heap.size := by
                have h4 := HS.out.ten.row
                rw [show (Raw.ten ⟨term, stamp, next, ⟨a1, n1, c1⟩, ⟨a2, n2, c2⟩, ⟨a3, n3, c3⟩, ⟨a4, n4, c4⟩⟩).a = a1 from rfl, h1] at h4
                rcases h4 with h5 | ⟨b2, o2, e2, _⟩
                · exfalso
                  have h6 := congrArg List.length h5
                  rw [layTen.length, List.length_nil] at h6
                  have h7 : s.tens.length = 0 := by rcases Nat.mul_eq_zero.1 h6 with h3 | h3; exact h3; cases h3
                  exact h0 (List.eq_nil_of_length_eq_zero (by omega))
                · rw [e2] at h1
                  have h8 := HS.out.ten.row
                  simp only [Option.some.injEq, Addr.mk.injEq] at e2
                  obtain ⟨rfl, rfl, rfl⟩ := e2
                  simp only at h8
                  rw [show a1 = some ⟨b, o', none⟩ from by assumption] at h8
                  refine Row.lt h8 ?_
                  intro h6
                  have h6 := congrArg List.length h6
                  rw [layTen.length, List.length_nil] at h6
                  have h7 : s.tens.length = 0 := by rcases Nat.mul_eq_zero.1 h6 with h3 | h3; exact h3; cases h3
                  exact h0 (List.eq_nil_of_length_eq_zero (by omega))
              omega
          exact .inr ⟨b, o, ha, fun i hi => by rw [World.cell?_of_block (w := w5) ((HW7.out.keep b hne.2).trans (HW6.out.keep b hne.1))]; exact hc i hi⟩
end Go.Proofs.Ytoofmofaimdhpaa

namespace Go.Proofs.Ytoofmofaimdhpaa
open Go.ChangeShapes Go.WideShapes Go.ChangeAt Go.RowKit
set_option maxRecDepth 100000

theorem size1_more : (Try.prog.info? 24).map (·.size) = some 1 ∧ (Try.prog.info? 25).map (·.size) = some 1 := ⟨by kernel_rfl, by kernel_rfl⟩
/-- A row out of append(nil, xs...). -/
structure FreshRow {P : Program} {e : TypeId} {α : Type} (L : Lay P e α) (w : World) (E : Nat) (a : Option Addr) (c : Nat) (xs : List α) : Prop where
  near : Near E none a
  can : Can w E e L.size a xs.length c (xs.flatMap L.cells)
  own : 0 < xs.length → w.ownsRow E e L.size (.slice a xs.length c) xs.length (xs.flatMap L.cells)
  lt : ∀ b o q, a = some ⟨b, o, q⟩ → b < w.heap.size
theorem FreshRow.of {P : Program} {e : TypeId} {α : Type} {L : Lay P e α} {w : World} {E : Nat} {a : Option Addr} {c n : Nat} {xs : List α} (hn : xs.length = n) (hcan : Can w E e L.size a (0 + n) c ([] ++ xs.flatMap L.cells))
    (hown : (0 < n → w.ownsRow E e L.size (.slice a (0 + n) c) (0 + n) ([] ++ xs.flatMap L.cells)) ∧ (n = 0 → a = none ∧ c = 0)) : FreshRow L w E a c xs := by
  subst hn
  rw [Nat.zero_add, List.nil_append] at hcan hown
  refine ⟨?_, hcan, hown.1, ?_⟩
  · by_cases h0 : 0 < xs.length
    · exact Near.own (hown.1 h0) (Nat.le_refl _)
    · rw [(hown.2 (by omega)).1]; exact Near.nil _ _
  · intro b o q e
    by_cases h0 : 0 < xs.length
    · exact ((hown.1 h0).lt b (by rw [e]; rfl)).2
    · rw [(hown.2 (by omega)).1] at e; cases e
theorem FreshRow.sli {P : Program} {e : TypeId} {α : Type} {L : Lay P e α} {w w' : World} {E B0 : Nat} {a : Option Addr} {c : Nat} {xs : List α} (h : FreshRow L w E a c xs) (hm : Mid B0 w.heap.size w w') (hB : B0 ≤ E) (hp : 0 < L.size) {B : Nat} (hB2 : B ≤ E) :
    SliAt L w' B ⟨a, xs.length, c⟩ xs ∧ OwnSli L w' B ⟨a, xs.length, c⟩ xs :=
  ⟨((SliAt.of_clone hp h.near h.can).mid hm hB (Nat.le_refl _)).mono hB2, ((⟨h.can, h.own⟩ : OwnSli L w E ⟨a, xs.length, c⟩ xs).mid h.near hm hB (Nat.le_refl _)).base hB2⟩

theorem refcopy_fin {w w1 w2 w3 w4 w5 w6 w7 w8 w9 w10 : World} {term stamp next : Int} {ts : List Tenant} {ls : List Lease} {ss : List Session} {ds : List Desk} {x1 x2 x3 x4 : Option Addr} {y1 y2 y3 y4 : Nat}
    (hW : w.heap.size + 3 ≤ w1.heap.size) (K1 : FreshRow layTen w2 w1.heap.size x1 y1 ts) (b12 : Below w1.heap.size w1 w2) (h3 : Wrote (w.heap.size + 1 + 1) w2 w3)
    (K2 : FreshRow layLea w4 w3.heap.size x2 y2 ls) (b34 : Below w3.heap.size w3 w4) (h5 : Wrote (w.heap.size + 1 + 1) w4 w5) (K3 : FreshRow laySes w6 w5.heap.size x3 y3 ss) (b56 : Below w5.heap.size w5 w6) (h7 : Wrote (w.heap.size + 1 + 1) w6 w7)
    (K4 : FreshRow layDsk w8 w7.heap.size x4 y4 ds) (b78 : Below w7.heap.size w7 w8) (h9 : Wrote (w.heap.size + 1 + 1) w8 w9) (h10 : Wrote (w.heap.size + 1) w9 w10) (hb : Below w.heap.size w w10) :
    RetCopy w ⟨term, stamp, next, ts, ls, ss, ds⟩ (.returned (.agg #[.int .i64 term, .int .i64 stamp, .int .i64 next, .slice x1 ts.length y1, .slice x2 ls.length y2, .slice x3 ss.length y3, .slice x4 ds.length y4])) w10 := by
  have s2 := b12.size
  have s3 := h3.size
  have s4 := b34.size
  have s5 := h5.size
  have s6 := b56.size
  have s7 := h7.size
  have s8 := b78.size
  have m8 : ∀ E, E ≤ w8.heap.size → Mid (w.heap.size + 3) E w8 w10 := fun E _ => ((Mid.refl _ _ _).wrote h9 (.inl (by omega))).wrote h10 (.inl (by omega))
  have m6 : ∀ E, E ≤ w6.heap.size → Mid (w.heap.size + 3) E w6 w10 := fun E hE => (((Mid.refl _ _ _).wrote h7 (.inl (by omega))).next b78 (by omega)).trans (m8 E (by omega))
  have m4 : ∀ E, E ≤ w4.heap.size → Mid (w.heap.size + 3) E w4 w10 := fun E hE => (((Mid.refl _ _ _).wrote h5 (.inl (by omega))).next b56 (by omega)).trans (m6 E (by omega))
  have m2 : ∀ E, E ≤ w2.heap.size → Mid (w.heap.size + 3) E w2 w10 := fun E hE => (((Mid.refl _ _ _).wrote h3 (.inl (by omega))).next b34 (by omega)).trans (m4 E (by omega))
  obtain ⟨S1, O1⟩ := K1.sli (m2 _ (Nat.le_refl _)) hW (by decide) (B := w.heap.size) (by omega)
  obtain ⟨S2, O2⟩ := K2.sli (m4 _ (Nat.le_refl _)) (by omega) (by decide) (B := w.heap.size) (by omega)
  obtain ⟨S3, _⟩ := K3.sli (m6 _ (Nat.le_refl _)) (by omega) (by decide) (B := w.heap.size) (by omega)
  obtain ⟨S4, _⟩ := K4.sli (m8 _ (Nat.le_refl _)) (by omega) (by decide) (B := w.heap.size) (by omega)
  exact ⟨⟨term, stamp, next, ⟨x1, ts.length, y1⟩, ⟨x2, ls.length, y2⟩, ⟨x3, ss.length, y3⟩, ⟨x4, ds.length, y4⟩⟩, rfl, ⟨⟨rfl, rfl, rfl, S1, S2, S3, S4⟩, O1, O2, Ap.of K1.lt K2.near (by omega), Ap.of K1.lt K3.near (by omega), Ap.of K1.lt K4.near (by omega), Ap.of K2.lt K3.near (by omega), Ap.of K2.lt K4.near (by omega), fun x o q e => by have := K2.lt x o q e; have := (m4 0 (by omega)).size; omega⟩, hb⟩

set_option maxHeartbeats 8000000 in
theorem refcopy_st (s : St) (r : Raw) (B : Nat) (w : World) (h : StAt w B r s) (hl1 : s.tens.length ≤ 900) (hl2 : s.leas.length ≤ 900) (hl3 : s.sess.length ≤ 900) (hl4 : s.dsks.length ≤ 900) :
    Calls Try.prog 37 #[r.agg] w (RetCopy w s) := by
  obtain ⟨term, stamp, next, ⟨a1, n1, c1⟩, ⟨a2, n2, c2⟩, ⟨a3, n3, c3⟩, ⟨a4, n4, c4⟩⟩ := r
  obtain ⟨term', stamp', nx, ts, ls, ss, ds⟩ := s
  have hq1 := h.term
  have hq2 := h.stamp
  have hq3 := h.next
  have l1 := h.ten.len
  have l2 := h.lea.len
  have l3 := h.ses.len
  have l4 := h.dsk.len
  have R1 := Lib.hid h.ten.row
  have R2 := Lib.hid h.lea.row
  have R3 := Lib.hid h.ses.row
  have R4 := Lib.hid h.dsk.row
  simp only at hq1 hq2 hq3 hl1 hl2 hl3 hl4 l1 l2 l3 l4
  subst hq1
  subst hq2
  subst hq3
  subst l1
  subst l2
  subst l3
  subst l4
  clear h
  have HBX : Hid (∀ w', Below (w.heap.size + 2) ((w.alloc (.cells #[.int .i64 term, .int .i64 stamp, .int .i64 next, .slice a1 ts.length c1, .slice a2 ls.length c2, .slice a3 ss.length c3, .slice a4 ds.length c4] 27)).alloc (.cells #[.int .i64 0, .int .i64 0, .int .i64 0, .slice none 0 0, .slice none 0 0, .slice none 0 0, .slice none 0 0] 27)) w' → Box w' w.heap.size (Raw.cells ⟨term, stamp, next, ⟨a1, ts.length, c1⟩, ⟨a2, ls.length, c2⟩, ⟨a3, ss.length, c3⟩, ⟨a4, ds.length, c4⟩⟩) ∧ Box w' (w.heap.size + 1) (Raw.cells ⟨0, 0, 0, ⟨none, 0, 0⟩, ⟨none, 0, 0⟩, ⟨none, 0, 0⟩, ⟨none, 0, 0⟩⟩)) := fun w' hb0 => by
      have hb : Below ((w.alloc (.cells #[.int .i64 term, .int .i64 stamp, .int .i64 next, .slice a1 ts.length c1, .slice a2 ls.length c2, .slice a3 ss.length c3, .slice a4 ds.length c4] 27)).alloc (.cells #[.int .i64 0, .int .i64 0, .int .i64 0, .slice none 0 0, .slice none 0 0, .slice none 0 0, .slice none 0 0] 27)).heap.size ((w.alloc (.cells #[.int .i64 term, .int .i64 stamp, .int .i64 next, .slice a1 ts.length c1, .slice a2 ls.length c2, .slice a3 ss.length c3, .slice a4 ds.length c4] 27)).alloc (.cells #[.int .i64 0, .int .i64 0, .int .i64 0, .slice none 0 0, .slice none 0 0, .slice none 0 0, .slice none 0 0] 27)) w' := by rw [show ((w.alloc (.cells #[.int .i64 term, .int .i64 stamp, .int .i64 next, .slice a1 ts.length c1, .slice a2 ls.length c2, .slice a3 ss.length c3, .slice a4 ds.length c4] 27)).alloc (.cells #[.int .i64 0, .int .i64 0, .int .i64 0, .slice none 0 0, .slice none 0 0, .slice none 0 0, .slice none 0 0] 27)).heap.size = w.heap.size + 2 from by simp]; exact hb0
      exact ⟨Box.of_alloc (mid_alloc' hb), Box.of_alloc1 hb⟩
  have hbw : Below w.heap.size w ((w.alloc (.cells #[.int .i64 term, .int .i64 stamp, .int .i64 next, .slice a1 ts.length c1, .slice a2 ls.length c2, .slice a3 ss.length c3, .slice a4 ds.length c4] 27)).alloc (.cells #[.int .i64 0, .int .i64 0, .int .i64 0, .slice none 0 0, .slice none 0 0, .slice none 0 0, .slice none 0 0] 27)) := (by repeat' (first | (with_reducible exact Below.refl _ _) | (with_reducible assumption) | (with_reducible refine Below.drew ?_) | (with_reducible refine Below.more ?_ _) | (with_reducible refine Below.put ?_ ?_ _) | (with_reducible refine Below.next ?_ (by with_reducible assumption)) | (with_reducible exact Nat.le_refl _) | (with_reducible refine Below.size' ?_) | omega))
  have BW := Lib.hid hbw
  go_enter Try.func37, Try.ntmps37
  go_wp2_with (first
    | (refine wpList_load_as laySt rfl (.tmp 1) rfl w.heap.size 0 rfl ⟨term, stamp, next, ⟨a1, ts.length, c1⟩, ⟨a2, ls.length, c2⟩, ⟨a3, ss.length, c3⟩, ⟨a4, ds.length, c4⟩⟩ (.agg #[.int .i64 term, .int .i64 stamp, .int .i64 next, .slice a1 ts.length c1, .slice a2 ls.length c2, .slice a3 ss.length c3, .slice a4 ds.length c4]) rfl (HBX.out _ (Below.refl _ _)).1.range ?_)
    | (refine wpList_store_whole laySt rfl (.tmp 3) (.tmp 4) rfl (w.heap.size + 1 + 1) ⟨term, stamp, next, ⟨a1, ts.length, c1⟩, ⟨a2, ls.length, c2⟩, ⟨a3, ss.length, c3⟩, ⟨a4, ds.length, c4⟩⟩ (Raw.cells ⟨0, 0, 0, ⟨none, 0, 0⟩, ⟨none, 0, 0⟩, ⟨none, 0, 0⟩, ⟨none, 0, 0⟩⟩) rfl rfl (Box.of_alloc2 (Below.refl _ _)) rfl ?_; intro v1 hbx hw; have V1 : Hid (Box v1 (w.heap.size + 1 + 1) (Raw.cells ⟨term, stamp, next, ⟨a1, ts.length, c1⟩, ⟨a2, ls.length, c2⟩, ⟨a3, ss.length, c3⟩, ⟨a4, ds.length, c4⟩⟩)) := hbx; have q1 : v1.heap.size = w.heap.size + 3 := by { rw [hw.size]; simp }; have BB1 : Hid (Below (w.heap.size + 2) ((w.alloc (.cells #[.int .i64 term, .int .i64 stamp, .int .i64 next, .slice a1 ts.length c1, .slice a2 ls.length c2, .slice a3 ss.length c3, .slice a4 ds.length c4] 27)).alloc (.cells #[.int .i64 0, .int .i64 0, .int .i64 0, .slice none 0 0, .slice none 0 0, .slice none 0 0, .slice none 0 0] 27)) v1) := ((Below.refl _ _).alloc (by simp) _).trans (hw.below _ (Nat.le_refl _)); clear hbx hw)
    | (refine wpList_store_field rfl (.tmp 5) (.const (.slice none 0 0)) rfl size1_slice.2.1 (w.heap.size + 1 + 1) 3 _ (.slice none 0 0) rfl rfl rfl rfl V1.out (by simp) ?_; intro v2 hbx hw; have V2 : Hid (Box v2 (w.heap.size + 1 + 1) (Raw.cells ⟨term, stamp, next, ⟨none, 0, 0⟩, ⟨a2, ls.length, c2⟩, ⟨a3, ss.length, c3⟩, ⟨a4, ds.length, c4⟩⟩)) := hbx; have BB2 := Lib.hid (BB1.out.trans (hw.below _ (Nat.le_refl _))); have q2 := hw.size; clear hbx hw)
    | (refine wpList_store_field rfl (.tmp 6) (.const (.slice none 0 0)) rfl size1_slice.1 (w.heap.size + 1 + 1) 4 _ (.slice none 0 0) rfl rfl rfl rfl V2.out (by simp) ?_; intro v3 hbx hw; have V3 : Hid (Box v3 (w.heap.size + 1 + 1) (Raw.cells ⟨term, stamp, next, ⟨none, 0, 0⟩, ⟨none, 0, 0⟩, ⟨a3, ss.length, c3⟩, ⟨a4, ds.length, c4⟩⟩)) := hbx; have BB3 := Lib.hid (BB2.out.trans (hw.below _ (Nat.le_refl _))); have q3 := hw.size; clear hbx hw)
    | (refine wpList_store_field rfl (.tmp 7) (.const (.slice none 0 0)) rfl size1_more.1 (w.heap.size + 1 + 1) 5 _ (.slice none 0 0) rfl rfl rfl rfl V3.out (by simp) ?_; intro v4 hbx hw; have V4 : Hid (Box v4 (w.heap.size + 1 + 1) (Raw.cells ⟨term, stamp, next, ⟨none, 0, 0⟩, ⟨none, 0, 0⟩, ⟨none, 0, 0⟩, ⟨a4, ds.length, c4⟩⟩)) := hbx; have BB4 := Lib.hid (BB3.out.trans (hw.below _ (Nat.le_refl _))); have q4 := hw.size; clear hbx hw)
    | (refine wpList_store_field rfl (.tmp 8) (.const (.slice none 0 0)) rfl size1_more.2 (w.heap.size + 1 + 1) 6 _ (.slice none 0 0) rfl rfl rfl rfl V4.out (by simp) ?_; intro v5 hbx hw; have V5 : Hid (Box v5 (w.heap.size + 1 + 1) (Raw.cells ⟨term, stamp, next, ⟨none, 0, 0⟩, ⟨none, 0, 0⟩, ⟨none, 0, 0⟩, ⟨none, 0, 0⟩⟩)) := hbx; have BB5 := Lib.hid (BB4.out.trans (hw.below _ (Nat.le_refl _))); have q5 := hw.size; have k3 := V5.out.cell (j := 3) rfl; have m3 := (HBX.out v5 BB5.out).1.cell (j := 3) rfl; clear hbx hw)
    | (at_builtin; refine wpList_can (layTen.elem Try.underlying22) rfl (.tmp 10) (.tmp 12) rfl v5.heap.size none 0 0 [] rfl (Can.nil _ _ _ _) _ ts.length _ (ts.flatMap layTen.cells) rfl (layTen.length _) (R1.out.below (BW.out.trans (BB5.out.mono (by omega)))) (layTen.ones _) (by show (0 + ts.length) * 40 ≤ _; omega) (Nat.le_refl _) ?_; intro x1 y1 v6 hcan hg hbb hown; have K1 := Lib.hid (FreshRow.of rfl hcan hown); have b1 := Lib.hid hbb; have V6 := Lib.hid (V5.out.below hbb (by omega)); have BB6 := Lib.hid (BB5.out.trans (hbb.mono (by omega))); have q6 := hbb.size; clear hcan hg hbb hown k3 m3)
    | (refine wpList_store_field rfl (.tmp 14) (.tmp 13) rfl size1_slice.2.1 (w.heap.size + 1 + 1) 3 _ (.slice x1 ts.length y1) rfl rfl rfl rfl V6.out (show 3 < 7 by decide) ?_; intro v7 hbx hw; have V7 : Hid (Box v7 (w.heap.size + 1 + 1) (Raw.cells ⟨term, stamp, next, ⟨x1, ts.length, y1⟩, ⟨none, 0, 0⟩, ⟨none, 0, 0⟩, ⟨none, 0, 0⟩⟩)) := hbx; have BB7 := Lib.hid (BB6.out.trans (hw.below _ (Nat.le_refl _))); have q7 := hw.size; have H1 := Lib.hid hw; have k3 := V7.out.cell (j := 4) rfl; have m3 := (HBX.out v7 BB7.out).1.cell (j := 4) rfl; clear hbx hw)
    | (at_builtin; refine wpList_can (layLea.elem Try.underlying23) rfl (.tmp 16) (.tmp 18) rfl v7.heap.size none 0 0 [] rfl (Can.nil _ _ _ _) _ ls.length _ (ls.flatMap layLea.cells) rfl (layLea.length _) (R2.out.below (BW.out.trans (BB7.out.mono (by omega)))) (layLea.ones _) (by show (0 + ls.length) * 56 ≤ _; omega) (Nat.le_refl _) ?_; intro x2 y2 v8 hcan hg hbb hown; have K2 := Lib.hid (FreshRow.of rfl hcan hown); have b2 := Lib.hid hbb; have V8 := Lib.hid (V7.out.below hbb (by omega)); have BB8 := Lib.hid (BB7.out.trans (hbb.mono (by omega))); have q8 := hbb.size; clear hcan hg hbb hown k3 m3)
    | (refine wpList_store_field rfl (.tmp 20) (.tmp 19) rfl size1_slice.1 (w.heap.size + 1 + 1) 4 _ (.slice x2 ls.length y2) rfl rfl rfl rfl V8.out (show 4 < 7 by decide) ?_; intro v9 hbx hw; have V9 : Hid (Box v9 (w.heap.size + 1 + 1) (Raw.cells ⟨term, stamp, next, ⟨x1, ts.length, y1⟩, ⟨x2, ls.length, y2⟩, ⟨none, 0, 0⟩, ⟨none, 0, 0⟩⟩)) := hbx; have BB9 := Lib.hid (BB8.out.trans (hw.below _ (Nat.le_refl _))); have q9 := hw.size; have H2 := Lib.hid hw; have k3 := V9.out.cell (j := 5) rfl; have m3 := (HBX.out v9 BB9.out).1.cell (j := 5) rfl; clear hbx hw)
    | (at_builtin; refine wpList_can (laySes.elem Try.underlying24) rfl (.tmp 22) (.tmp 24) rfl v9.heap.size none 0 0 [] rfl (Can.nil _ _ _ _) _ ss.length _ (ss.flatMap laySes.cells) rfl (laySes.length _) (R3.out.below (BW.out.trans (BB9.out.mono (by omega)))) (laySes.ones _) (by show (0 + ss.length) * 56 ≤ _; omega) (Nat.le_refl _) ?_; intro x3 y3 v10 hcan hg hbb hown; have K3 := Lib.hid (FreshRow.of rfl hcan hown); have b3 := Lib.hid hbb; have V10 := Lib.hid (V9.out.below hbb (by omega)); have BB10 := Lib.hid (BB9.out.trans (hbb.mono (by omega))); have q10 := hbb.size; clear hcan hg hbb hown k3 m3)
    | (refine wpList_store_field rfl (.tmp 26) (.tmp 25) rfl size1_more.1 (w.heap.size + 1 + 1) 5 _ (.slice x3 ss.length y3) rfl rfl rfl rfl V10.out (show 5 < 7 by decide) ?_; intro v11 hbx hw; have V11 : Hid (Box v11 (w.heap.size + 1 + 1) (Raw.cells ⟨term, stamp, next, ⟨x1, ts.length, y1⟩, ⟨x2, ls.length, y2⟩, ⟨x3, ss.length, y3⟩, ⟨none, 0, 0⟩⟩)) := hbx; have BB11 := Lib.hid (BB10.out.trans (hw.below _ (Nat.le_refl _))); have q11 := hw.size; have H3 := Lib.hid hw; have k3 := V11.out.cell (j := 6) rfl; have m3 := (HBX.out v11 BB11.out).1.cell (j := 6) rfl; clear hbx hw)
    | (at_builtin; refine wpList_can (layDsk.elem Try.underlying25) rfl (.tmp 28) (.tmp 30) rfl v11.heap.size none 0 0 [] rfl (Can.nil _ _ _ _) _ ds.length _ (ds.flatMap layDsk.cells) rfl (layDsk.length _) (R4.out.below (BW.out.trans (BB11.out.mono (by omega)))) (layDsk.ones _) (by show (0 + ds.length) * 64 ≤ _; omega) (Nat.le_refl _) ?_; intro x4 y4 v12 hcan hg hbb hown; have K4 := Lib.hid (FreshRow.of rfl hcan hown); have b4 := Lib.hid hbb; have V12 := Lib.hid (V11.out.below hbb (by omega)); have BB12 := Lib.hid (BB11.out.trans (hbb.mono (by omega))); have q12 := hbb.size; clear hcan hg hbb hown k3 m3)
    | (refine wpList_store_field rfl (.tmp 32) (.tmp 31) rfl size1_more.2 (w.heap.size + 1 + 1) 6 _ (.slice x4 ds.length y4) rfl rfl rfl rfl V12.out (show 6 < 7 by decide) ?_; intro v13 hbx hw; have V13 : Hid (Box v13 (w.heap.size + 1 + 1) (Raw.cells ⟨term, stamp, next, ⟨x1, ts.length, y1⟩, ⟨x2, ls.length, y2⟩, ⟨x3, ss.length, y3⟩, ⟨x4, ds.length, y4⟩⟩)) := hbx; have BB13 := Lib.hid (BB12.out.trans (hw.below _ (Nat.le_refl _))); have q13 := hw.size; have H4 := Lib.hid hw; have k3 := V13.out.cell (j := 6) rfl; have m3 := (HBX.out v13 BB13.out).1.cell (j := 6) rfl; clear hbx hw)
    | (refine wpList_load_as laySt rfl (.tmp 3) rfl (w.heap.size + 1 + 1) 0 rfl ⟨term, stamp, next, ⟨x1, ts.length, y1⟩, ⟨x2, ls.length, y2⟩, ⟨x3, ss.length, y3⟩, ⟨x4, ds.length, y4⟩⟩ (.agg #[.int .i64 term, .int .i64 stamp, .int .i64 next, .slice x1 ts.length y1, .slice x2 ls.length y2, .slice x3 ss.length y3, .slice x4 ds.length y4]) rfl V13.out.range ?_)
    | (refine wpList_store_whole laySt rfl (.tmp 2) (.tmp 33) rfl (w.heap.size + 1) ⟨term, stamp, next, ⟨x1, ts.length, y1⟩, ⟨x2, ls.length, y2⟩, ⟨x3, ss.length, y3⟩, ⟨x4, ds.length, y4⟩⟩ _ rfl rfl (HBX.out v13 BB13.out).2 rfl ?_; intro vz hbx hw; have VZ := Lib.hid hbx; have HZ := Lib.hid hw; clear hbx hw))
  obtain ⟨k0, k1, k2, k3, k4, k5, k6⟩ := cellsSt0 VZ.out.range
  refine bodyPost_ret (v := .agg #[.int .i64 term, .int .i64 stamp, .int .i64 next, .slice x1 ts.length y1, .slice x2 ls.length y2, .slice x3 ss.length y3, .slice x4 ds.length y4]) (by simp [results, Try.results37, go_sem, k0, k1, k2, k3, k4, k5, k6]) rfl ?_
  exact refcopy_fin (by omega) K1.out b1.out H1.out K2.out b2.out H2.out K3.out b3.out H3.out K4.out b4.out H4.out HZ.out ((BW.out.trans (BB13.out.mono (by omega))).trans (HZ.out.below _ (by omega)))
end Go.Proofs.Ytoofmofaimdhpaa

namespace Go.Proofs.Ytoofmofaimdhpaa
open Go.ChangeShapes Go.WideShapes Go.ChangeAt Go.RowKit
set_option maxRecDepth 100000

theorem credit_ways {b rate burst out ticks T room : Int} (hb : 0 ≤ b) (hb2 : b ≤ 1000000000) (hr : 0 ≤ rate) (hr2 : rate ≤ 1000000) (hT : broughtI ticks 0 1099511627776 = T) (hroom : roomI burst out = room) :
    (room ≤ b → creditI b rate burst out ticks = room) ∧ (b < room → 0 < rate → (room - b) / rate < T → creditI b rate burst out ticks = room) ∧ (b < room → 0 < rate → T ≤ (room - b) / rate → creditI b rate burst out ticks = b + rate * T ∧ rate * T ≤ room - b) ∧ (b < room → rate = 0 → creditI b rate burst out ticks = b) := by
  obtain ⟨h1, h2⟩ := roomI_range burst out
  obtain ⟨h3, h4⟩ := broughtI_range ticks 0 1099511627776 (by omega)
  rw [hT] at h3 h4
  rw [hroom] at h1 h2
  have e1 : broughtI b 0 2305843009213693952 = b := by unfold broughtI; omega
  have e2 : broughtI rate 0 1000000 = rate := by unfold broughtI; omega
  have h5 : 0 ≤ rate * T := Int.mul_nonneg hr h3
  have hc : creditI b rate burst out ticks = min (max (b + rate * T) 0) room := by
    unfold creditI cutI
    rw [e1, e2, hT, hroom]; rfl
  rw [hc]
  refine ⟨fun h => by omega, fun h h0 hq => ?_, fun h h0 hq => ?_, fun h h0 => ?_⟩
  · have h6 : room - b < rate * T := by
      have := Int.lt_mul_of_ediv_lt h0 hq
      rw [Int.mul_comm] at this; exact this
    omega
  · have h6 : rate * T ≤ room - b := by
      have := Int.mul_le_of_le_ediv h0 hq
      rw [Int.mul_comm] at this; exact this
    exact ⟨by omega, h6⟩
  · subst h0; omega

set_option maxHeartbeats 2000000 in
theorem refcredit_any (b rate burst out ticks : Int) (w : World) (hb : 0 ≤ b) (hb2 : b ≤ 1000000000) (hr : 0 ≤ rate) (hr2 : rate ≤ 1000000) :
    Calls Try.prog 51 #[.int .i64 b, .int .i64 rate, .int .i64 burst, .int .i64 out, .int .i64 ticks] w fun e w' => e = .returned (.int .i64 (creditI b rate burst out ticks)) ∧ w = w' := by
  have main : ∀ T room : Int, broughtI ticks 0 1099511627776 = T → roomI burst out = room → (ticks < 0 ∧ T = 0 ∨ 1099511627776 < ticks ∧ T = 1099511627776 ∨ 0 ≤ ticks ∧ ticks ≤ 1099511627776 ∧ T = ticks) →
      Calls Try.prog 51 #[.int .i64 b, .int .i64 rate, .int .i64 burst, .int .i64 out, .int .i64 ticks] w fun e w' => e = .returned (.int .i64 (creditI b rate burst out ticks)) ∧ w = w' := by
    intro T room hT hroom hways
    obtain ⟨c1, c2, c3, c4⟩ := credit_ways hb hb2 hr hr2 hT hroom
    obtain ⟨r1, r2⟩ := roomI_range burst out
    have HR := Lib.hid (refroom_any burst out)
    rw [hroom] at r1 r2 HR
    have C1 := Lib.hid c1
    have C2 := Lib.hid c2
    have C3 := Lib.hid c3
    have C4 := Lib.hid c4
    generalize creditI b rate burst out ticks = res at C1 C2 C3 C4 ⊢
    clear c1 c2 c3 c4 hT hroom
    have hm : (room - b).tdiv rate = (room - b) / rate ∨ room < b := by
      by_cases h : 0 ≤ room - b
      · exact .inl (Int.tdiv_eq_ediv_of_nonneg h)
      · exact .inr (by omega)
    by_cases g1 : room ≤ b
    · have HO := Lib.hid (C1.out g1)
      rcases hways with ⟨a1, rfl⟩ | ⟨a1, rfl⟩ | ⟨a1, a2, rfl⟩
      all_goals
        go_enter Try.func51, Try.ntmps51
        go_wp2_with (go_at_call 89; ((with_reducible refine (HR.out _).mono ?_); rintro e w' ⟨rfl, rfl⟩))
        try (go_returns; exact ⟨ret_int HO.out.symm, rfl⟩)
    · by_cases g2 : rate = 0
      · have HO := Lib.hid (C4.out (by omega) g2)
        subst g2
        rcases hways with ⟨a1, rfl⟩ | ⟨a1, rfl⟩ | ⟨a1, a2, rfl⟩
        all_goals
          go_enter Try.func51, Try.ntmps51
          go_wp2_with (go_at_call 89; ((with_reducible refine (HR.out _).mono ?_); rintro e w' ⟨rfl, rfl⟩))
          try (go_returns; exact ⟨ret_int (by rw [HO.out]; try omega), rfl⟩)
      · have g3 : 0 < rate := by omega
        have hdiv : (room - b).tdiv rate = (room - b) / rate := Int.tdiv_eq_ediv_of_nonneg (by omega)
        have hq0 : 0 ≤ (room - b) / rate := Int.ediv_nonneg (by omega) (by omega)
        have hq1 : (room - b) / rate ≤ room - b := Int.ediv_le_self _ (by omega)
        have C2' := Lib.hid (C2.out (by omega) g3)
        have C3' := Lib.hid (C3.out (by omega) g3)
        generalize hqq : (room - b) / rate = q at hdiv hq0 hq1 C2' C3'
        clear hm hqq C1 C2 C3 C4
        by_cases g4 : q < T
        · have HO := Lib.hid (C2'.out g4)
          rcases hways with ⟨a1, rfl⟩ | ⟨a1, rfl⟩ | ⟨a1, a2, rfl⟩
          all_goals
            go_enter Try.func51, Try.ntmps51
            go_wp2_with (go_at_call 89; ((with_reducible refine (HR.out _).mono ?_); rintro e w' ⟨rfl, rfl⟩))
            try (go_returns; exact ⟨ret_int HO.out.symm, rfl⟩)
        · obtain ⟨h8, h9⟩ := C3'.out (by omega)
          have HO := Lib.hid h8
          have h10 : 0 ≤ rate * T := Int.mul_nonneg hr (by omega)
          clear h8
          rcases hways with ⟨a1, rfl⟩ | ⟨a1, rfl⟩ | ⟨a1, a2, rfl⟩
          all_goals
            go_enter Try.func51, Try.ntmps51
            go_wp2_with (go_at_call 89; ((with_reducible refine (HR.out _).mono ?_); rintro e w' ⟨rfl, rfl⟩))
            try (go_returns; exact ⟨ret_int (by rw [HO.out]; try omega), rfl⟩)
  exact main _ _ rfl rfl (by unfold broughtI; omega)

set_option maxHeartbeats 1000000 in
theorem refback_any (b burst out size : Int) (w : World) (hb : 0 ≤ b) (hb2 : b ≤ 1000000000) (hs : 0 ≤ size) (hs2 : size ≤ 1000000) :
    Calls Try.prog 57 #[.int .i64 b, .int .i64 burst, .int .i64 out, .int .i64 size] w fun e w' => e = .returned (.int .i64 (backI b burst out size)) ∧ w = w' := by
  have HC := Lib.hid (refcut_any (b + 1000 * size) burst out w)
  have HB : Hid (backI b burst out size = cutI (b + 1000 * size) burst out) := by
    show _ = _
    unfold backI
    rw [show broughtI b 0 2305843009213693952 = b from by unfold broughtI; omega, show broughtI size 0 1000000 = size from by unfold broughtI; omega]
  generalize backI b burst out size = res at HB ⊢
  go_enter Try.func57, Try.ntmps57
  go_wp2_with (go_at_call 91; ((with_reducible refine HC.out.mono ?_); rintro e w' ⟨rfl, rfl⟩))
  go_returns
  exact ⟨ret_int HB.out.symm, rfl⟩
end Go.Proofs.Ytoofmofaimdhpaa
