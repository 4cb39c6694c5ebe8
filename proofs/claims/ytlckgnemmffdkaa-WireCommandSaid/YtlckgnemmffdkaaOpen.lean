/- How a law's arguments are opened, and the frame that makes a statement out of a walk: for any law of plain data that answers one bool. -/
import Derived.Test.YtlckgnemmffdkaaBase
import Derived.Deep.Slices
import Derived.Carry
import Derived.SizedLaws
namespace Go.Proofs.Ytlckgnemmffdkaa
open Go.ChangeShapes Go.WideShapes Go.ChangeAt Go.RowKit Go.Deep
set_option maxRecDepth 100000

/-- The cells read as a datum of the type. -/
def Rd {H : Type} (enc : TypeId × Value → H) (P : Program) (w : World) (t : TypeId) (cs : List Value) : Prop :=
  ∃ fuel x, DataW.trod enc P w 0 (fun _ => true) true fuel t cs = some x ∧ ∀ n ∈ x.1.weights P t, n ≤ reachBytes
/-- The value is one of the type, and reads as a datum. -/
def RdV {H : Type} (enc : TypeId × Value → H) (P : Program) (w : World) (t : TypeId) (v : Value) : Prop :=
  (∃ base, Value.okWide P w .any base t v) ∧ Rd enc P w t v.cells.toList
def RdAll {H : Type} (enc : TypeId × Value → H) (P : Program) (w : World) : List TypeId → List Value → Prop
  | [], vs => vs = []
  | t :: ts, vs => ∃ v vs', vs = v :: vs' ∧ RdV enc P w t v ∧ RdAll enc P w ts vs'

section
variable {H : Type} {enc : TypeId × Value → H} {P : Program} {w : World} {t : TypeId}

theorem weights_sub {P : Program} {e : TypeId} {d : DataW H} {k : Nat} : ∀ {l : List (DataW H)}, d ∈ l → k ∈ d.weights P e → k ∈ DataW.weightsAll P e l
  | a :: l, hd, hk => by
    rw [DataW.weightsAll, List.mem_append]
    rcases List.mem_cons.1 hd with rfl | h
    · exact .inl hk
    · exact .inr (weights_sub h hk)
theorem weights_sub_each {P : Program} {k : Nat} {t : TypeId} {d : DataW H} : ∀ {ts : List TypeId} {l : List (DataW H)} {i : Nat}, ts[i]? = some t → l[i]? = some d → k ∈ d.weights P t → k ∈ DataW.weightsEach P ts l
  | t :: ts, a :: l, 0, ht, hd, hk => by
    simp at ht hd
    subst ht; subst hd
    rw [DataW.weightsEach, List.mem_append]
    exact .inl hk
  | _ :: ts, _ :: l, i + 1, ht, hd, hk => by
    rw [DataW.weightsEach, List.mem_append]
    exact .inr (weights_sub_each (i := i) (by simpa using ht) (by simpa using hd) hk)
  | [], _, _, ht, _, _ => by simp at ht
  | _ :: _, [], _, _, hd, _ => by simp at hd
theorem Rd.int {k : IntKind} {cs : List Value} (ht : P.underlying t = some (.int k)) (h : Rd enc P w t cs) : ∃ n, cs = [.int k n] ∧ (Lit.int k n).wf = true := by
  obtain ⟨f, x, h, _⟩ := h
  obtain ⟨n, h1, _, h2⟩ := DataW.trod_int ht h
  exact ⟨n, h1, h2⟩
theorem Rd.bool {cs : List Value} (ht : P.underlying t = some .bool) (h : Rd enc P w t cs) : ∃ b, cs = [.bool b] := by
  obtain ⟨f, x, h, _⟩ := h
  obtain ⟨b, h1, _⟩ := DataW.trod_bool ht h
  exact ⟨b, h1⟩
theorem Rd.slice {e : TypeId} {cs : List Value} (ht : P.underlying t = some (.slice e)) (h : Rd enc P w t cs) :
    cs = [.slice none 0 0] ∨ ∃ a len cap, cs = [.slice (some a) len cap] ∧ len ≤ cap ∧ cap ≤ maxLen ∧ cap * P.bytesOf e ≤ reachBytes ∧
      ∀ i, i < cap → ∃ c, w.cells? 0 (a.add (i * P.cellsOf e)) (P.cellsOf e) = some c ∧ Rd enc P w e c := by
  obtain ⟨f, x, h, hw⟩ := h
  rcases open_slice ht h with ⟨h1, _⟩ | ⟨a, len, cap, m, n, D, Pl, h1, _, hl, hc, hm, rfl, hel⟩
  · exact .inl h1
  · simp only [if_true] at hm
    obtain rfl := hm
    simp only [DataW.weights, ht, List.length_map, List.length_range, List.mem_cons, List.mem_append] at hw
    refine .inr ⟨a, len, m, h1, hl, hc, ?_, fun i hi => ?_⟩
    · have := hw _ (.inl rfl)
      rw [Nat.add_sub_cancel' hl] at this
      exact this
    · obtain ⟨c, hc, hx⟩ := hel i hi
      refine ⟨c, hc, n, _, hx, fun k hk => hw k (.inr ?_)⟩
      by_cases h : i < len
      · exact .inl (weights_sub (List.mem_map.2 ⟨i, by simpa using h, rfl⟩) hk)
      · exact .inr (weights_sub (List.mem_map.2 ⟨i - len, by simp; omega, by rw [Nat.add_sub_cancel' (by omega)]⟩) hk)
theorem Rd.struct {fs : Array Field} {cs : List Value} (ht : P.underlying t = some (.struct fs)) (h : Rd enc P w t cs) :
    cs.length = P.cellsOf t ∧ ∀ (i : Nat) (f : Field), fs[i]? = some f → Rd enc P w f.type ((cs.drop f.offset).take (P.cellsOf f.type)) := by
  obtain ⟨f, x, h, hw⟩ := h
  obtain ⟨xs, n, _, rfl, hl, hx, hel⟩ := DataW.trod_struct ht h
  simp only [DataW.weights, ht] at hw
  refine ⟨hl, fun i f hf => ?_⟩
  have := hel i f hf
  have hi : i < xs.length := by
    rw [hx]
    exact (Array.getElem?_eq_some_iff.1 hf).1
  exact ⟨n, xs[i], by rw [this, List.getElem?_eq_getElem hi], fun k hk => hw k (weights_sub_each (i := i) (by simpa using ⟨f, hf, rfl⟩) (by simp [List.getElem?_eq_getElem hi]) hk)⟩
theorem RdV.int {k : IntKind} {v : Value} (ht : P.underlying t = some (.int k)) (h : RdV enc P w t v) : ∃ n, v = .int k n ∧ (Lit.int k n).wf = true := by
  obtain ⟨⟨_, ho⟩, h⟩ := h
  obtain ⟨n, rfl⟩ := okWide_int ht ho
  obtain ⟨m, h1, h2⟩ := h.int ht
  simp [Value.cells] at h1
  subst h1
  exact ⟨_, rfl, h2⟩
theorem RdV.bool {v : Value} (ht : P.underlying t = some .bool) (h : RdV enc P w t v) : ∃ b, v = .bool b := by
  obtain ⟨⟨_, ho⟩, h⟩ := h
  exact okWide_bool ht ho
theorem RdV.slice {e : TypeId} {v : Value} (ht : P.underlying t = some (.slice e)) (h : RdV enc P w t v) : ∃ a len cap, v = .slice a len cap ∧ Rd enc P w t [.slice a len cap] := by
  obtain ⟨⟨_, ho⟩, h⟩ := h
  obtain ⟨a, len, cap, rfl⟩ := okWide_slice ht ho
  exact ⟨a, len, cap, rfl, h⟩
theorem RdV.struct {fs : Array Field} {v : Value} (ht : P.underlying t = some (.struct fs)) (h : RdV enc P w t v) : ∃ cs : List Value, v = .agg cs.toArray ∧ Rd enc P w t cs := by
  obtain ⟨⟨_, ho⟩, h⟩ := h
  obtain ⟨cs, rfl, _⟩ := okWide_struct ht ho
  exact ⟨cs.toList, by simp, h⟩

/-- A slice opened, its elements as whatever they are told to be. -/
theorem Rd.rows {α : Type} {e : TypeId} {a : Option Addr} {len cap size : Nat} {cells : α → List Value} {good : α → Prop} (hs : ∀ x, (cells x).length = size) (hpos : 0 < size) (ht : P.underlying t = some (.slice e)) (hc : P.cellsOf e = size)
    (each : ∀ cs, Rd enc P w e cs → ∃ x, cs = cells x ∧ good x) (h : Rd enc P w t [.slice a len cap]) :
    ∃ xs : List α, xs.length = len ∧ len ≤ cap ∧ cap ≤ maxLen ∧ cap * P.bytesOf e ≤ reachBytes ∧ (a = none → cap = 0) ∧ (∀ x ∈ xs, good x) ∧ Row w a (xs.flatMap cells) := by
  rcases h.slice ht with h1 | ⟨x, l, c, h1, hl, hm, hby, hel⟩
  · simp at h1
    obtain ⟨rfl, rfl, rfl⟩ := h1
    exact ⟨[], rfl, Nat.le_refl _, Nat.zero_le _, by simp, fun _ => rfl, by simp, .inl rfl⟩
  · simp at h1
    obtain ⟨rfl, rfl, rfl⟩ := h1
    rw [hc] at hel
    have hv : ∀ i, i < len → ∃ y : α, good y ∧ w.cells? 0 (x.add (i * size)) size = some (cells y) := by
      intro i hi
      obtain ⟨cs, hcs, hr⟩ := hel i (by omega)
      obtain ⟨y, rfl, hy⟩ := each _ hr
      exact ⟨y, hy, hcs⟩
    by_cases h0 : len = 0
    · subst h0
      exact ⟨[], rfl, Nat.zero_le _, hm, hby, fun e => by simp at e, by simp, .inl rfl⟩
    · obtain ⟨y0, _⟩ := hv 0 (by omega)
      have : Inhabited α := ⟨y0⟩
      obtain ⟨g, hg⟩ := choose_lt (p := fun i y => good y ∧ w.cells? 0 (x.add (i * size)) size = some (cells y)) hv
      have hcell : ∀ i r, i < len → r < size → w.cell? ((x.add (i * size)).add r) = (cells (g i))[r]? := by
        intro i r hi hr
        obtain ⟨_, _, hall⟩ := World.cells?_some (hg i hi).2
        exact hall r hr
      have hspot : x.spot = none := by
        have h1 := hcell 0 0 (by omega) hpos
        obtain ⟨v, hv⟩ : ∃ v, (cells (g 0))[0]? = some v := by
          cases hh : (cells (g 0))[0]? with
          | some v => exact ⟨v, rfl⟩
          | none => rw [List.getElem?_eq_none_iff, hs] at hh; omega
        have := World.cell?_spot (h1.trans hv)
        simpa [Addr.add] using this
      obtain ⟨b, o, spot⟩ := x
      simp only at hspot
      subst hspot
      refine ⟨(List.range len).map g, by simp, hl, hm, hby, fun e => by simp at e, ?_, .inr ⟨b, o, rfl, fun j hj => ?_⟩⟩
      · intro y hy
        obtain ⟨i, hi, rfl⟩ := List.mem_map.1 hy
        exact (hg i (by simpa using hi)).1
      · have hlen := flatMap_len hs ((List.range len).map g)
        rw [List.length_map, List.length_range] at hlen
        have hj2 : j < len * size := by rw [← hlen]; exact hj
        have hi : j / size < len := Nat.div_lt_of_lt_mul (by rw [Nat.mul_comm]; exact hj2)
        have hr : j % size < size := Nat.mod_lt _ hpos
        have hjj : j / size * size + j % size = j := by rw [Nat.mul_comm]; exact Nat.div_add_mod j size
        have h1 := flatMap_at hs (xs := (List.range len).map g) (i := j / size) hr
        rw [hjj] at h1
        have h2 := hcell (j / size) (j % size) hi hr
        have h3 : ((⟨b, o, none⟩ : Addr).add (j / size * size)).add (j % size) = ⟨b, o + j, none⟩ := by
          rw [add_add, hjj]
          unfold Addr.add
          by_cases hz : j = 0
          · subst hz; simp
          · simp [hz]
        rw [h3] at h2
        rw [h2, ← List.getElem?_eq_getElem hj, h1, List.getElem?_map, List.getElem?_range hi]
        rfl

/-- A slice of one-cell numbers, opened. -/
theorem Rd.ints {e : TypeId} {k : IntKind} {a : Option Addr} {len cap : Nat} (ht : P.underlying t = some (.slice e)) (he : P.underlying e = some (.int k)) (hc : P.cellsOf e = 1) (h : Rd enc P w t [.slice a len cap]) :
    ∃ zs : List Int, zs.length = len ∧ len ≤ cap ∧ cap ≤ maxLen ∧ cap * P.bytesOf e ≤ reachBytes ∧ (∀ n ∈ zs, (Lit.int k n).wf = true) ∧ (a = none → cap = 0) ∧ Row w a (zs.map (Value.int k)) := by
  rcases h.slice ht with h1 | ⟨x, l, c, h1, hl, hm, hby, hel⟩
  · simp at h1
    obtain ⟨rfl, rfl, rfl⟩ := h1
    exact ⟨[], rfl, Nat.le_refl _, Nat.zero_le _, by simp, by simp, fun _ => rfl, .inl rfl⟩
  · simp at h1
    obtain ⟨rfl, rfl, rfl⟩ := h1
    rw [hc] at hel
    have hv : ∀ i, i < len → ∃ n, (Lit.int k n).wf = true ∧ w.cell? (x.add i) = some (.int k n) := by
      intro i hi
      obtain ⟨cs, hcs, hr⟩ := hel i (by omega)
      obtain ⟨n, rfl, hw⟩ := hr.int he
      refine ⟨n, hw, ?_⟩
      rw [Nat.mul_one] at hcs
      simp only [World.cells?, Nat.zero_le, if_true, List.range_succ, List.range_zero, List.nil_append] at hcs
      have he : (x.add i).add 0 = x.add i := by simp [Addr.add]
      simp only [List.mapM_cons, List.mapM_nil, he] at hcs
      revert hcs
      cases w.cell? (x.add i) with
      | none => intro h; cases h
      | some v => intro h; simpa using h
    obtain ⟨g, hg⟩ := choose_lt (p := fun i n => (Lit.int k n).wf = true ∧ w.cell? (x.add i) = some (.int k n)) hv
    refine ⟨(List.range len).map g, by simp, hl, hm, hby, ?_, fun e => by simp at e, ?_⟩
    · intro n hn
      obtain ⟨i, hi, rfl⟩ := List.mem_map.1 hn
      exact (hg i (by simpa using hi)).1
    · by_cases h0 : len = 0
      · subst h0; exact .inl rfl
      · have hs := World.cell?_spot (hg 0 (by omega)).2
        have hspot : x.spot = none := by simpa [Addr.add] using hs
        obtain ⟨b, o, spot⟩ := x
        simp only at hspot
        subst hspot
        refine .inr ⟨b, o, rfl, fun i hi => ?_⟩
        simp only [List.length_map, List.length_range] at hi
        have := (hg i hi).2
        by_cases hi0 : i = 0
        · subst hi0; simpa [Addr.add] using this
        · simpa [Addr.add, hi0] using this
/-- A slice of bytes, opened. -/
theorem Rd.bytes {e : TypeId} {a : Option Addr} {len cap : Nat} (ht : P.underlying t = some (.slice e)) (he : P.underlying e = some (.int .u8)) (hc : P.cellsOf e = 1) (h : Rd enc P w t [.slice a len cap]) :
    ∃ l : List UInt8, l.length = len ∧ len ≤ cap ∧ cap ≤ maxLen ∧ cap * P.bytesOf e ≤ reachBytes ∧ (a = none → cap = 0) ∧ RowB w a l := by
  obtain ⟨zs, h1, h2, h3, hby, h4, h5, h6⟩ := h.ints ht he hc
  refine ⟨zs.map fun z => UInt8.ofNat z.toNat, by simpa using h1, h2, h3, hby, h5, ?_⟩
  have : (zs.map fun z => UInt8.ofNat z.toNat).map B = zs.map (Value.int .u8) := by
    rw [List.map_map]
    refine List.map_congr_left fun z hz => ?_
    obtain ⟨b0, b1⟩ := bounds_u8 (h4 z hz)
    simp only [Function.comp, B]
    congr 1
    rw [UInt8.toNat_ofNat']
    omega
  unfold RowB
  rw [this]
  exact h6
end

theorem RdAll.of {H : Type} {enc : TypeId × Value → H} {P : Program} {w : World} {base : Nat} : ∀ {ts : List TypeId} {vs : List Value} {ds : List (DataW H)} {p : List MemPlace}, DataW.TrodAll enc P w 0 (fun _ => true) true ts vs ds p →
    (∀ (j : Nat) t v, ts[j]? = some t → vs[j]? = some v → Value.okWide P w .any base t v) → (∀ n ∈ DataW.weightsEach P ts ds, n ≤ reachBytes) → RdAll enc P w ts vs
  | [], [], [], _, _, _, _ => rfl
  | t :: _, v :: vs, _ :: _, _, ⟨_, _, ⟨fuel, hx⟩, h, _⟩, hok, hw =>
    ⟨v, vs, rfl, ⟨⟨base, hok 0 t v rfl rfl⟩, fuel, _, hx, fun n hn => hw n (by rw [DataW.weightsEach, List.mem_append]; exact .inl hn)⟩,
      RdAll.of h (fun j t v ht hv => hok (j + 1) t v ht hv) (fun n hn => hw n (by rw [DataW.weightsEach, List.mem_append]; exact .inr hn))⟩

theorem trodAll_stays {H : Type} {enc : TypeId × Value → H} {P : Program} {W W' : World} (hl : laidOutB P = true) (hb : Below W.heap.size W W') : ∀ {ts : List TypeId} {vs : List Value} {ds : List (DataW H)} {p : List MemPlace},
    (∀ t ∈ ts, P.readableRec t = true ∧ t < P.types.size) → DataW.TrodAll enc P W 0 (fun _ => true) true ts vs ds p → DataW.TrodAll enc P W' 0 (fun b => decide (b < W.heap.size)) true ts vs ds p
  | [], [], [], _, _, h => h
  | t :: ts, v :: vs, d :: ds, _, hall, ⟨p, q, hx, h, rfl⟩ =>
    ⟨_, _, Below.trod hl (hall t (by simp)).1 (hall t (by simp)).2 hx hb (by obtain ⟨m, hm⟩ := hx; exact DataW.trod_lt m _ _ _ hm), trodAll_stays hl hb (fun t ht => hall t (by simp [ht])) h, rfl⟩

theorem trodAll_length {H : Type} {enc : TypeId × Value → H} {P : Program} {W : World} {b : Nat} {sp : Nat → Bool} {hd : Bool} : ∀ {ts : List TypeId} {vs : List Value} {ds : List (DataW H)} {p : List MemPlace},
    DataW.TrodAll enc P W b sp hd ts vs ds p → ds.length = ts.length
  | [], [], [], _, _ => rfl
  | _ :: _, _ :: _, _ :: _, _, ⟨_, _, _, h, _⟩ => congrArg (· + 1) (trodAll_length h)

/-- THE FRAME: from the walk to the lifted row. -/
theorem law_lifted {H : Type} {enc : TypeId × Value → H} {C : Checked} {os : Os} {f : FuncId} {fn : Func} {s : ChangeSpec} {boolT : TypeId}
    (own : ownKnob C.prog.godebug = none) (started : os.Started) (noInit : C.prog.inits.idxOf? f = none) (hfn : C.prog.funcs[f]? = some fn)
    (witness : ∃ (w : World) (tape : Tape) (i : Input), w.os = os ∧ (w.forCall tape i).Shaped C.prog ∧ i.vars = [] ∧ Input.okWide C.prog (w.forCall tape i) .any w.heap.size f i ∧
      s.pre6 enc C.prog fn [] false (w.forCall tape i).memory i.args ∧ ({} : Assume).holds C.prog (lone (Frame.enter C.prog f i.args .normal) [] (w.forCall tape i)))
    (hvars : s.vars = []) (hres : fn.resultTypes = #[boolT]) (hbool : C.prog.underlying boolT = some .bool) (hlaid : laidOutB C.prog = true)
    (hpar0 : (fn.params.toList.all fun t => C.prog.readableRec t && decide (t < C.prog.types.size)) = true)
    (hspec : ∀ ds : List (DataW H), ds.length = fn.params.toList.length → s.fn H ds = { results := [.lit (.bool true)], args := ds })
    (walk : ∀ (W : World) (vs : List Value), RdAll enc C.prog W fn.params.toList vs → Calls C.prog f vs.toArray W fun e W' => e = .returned (.bool true) ∧ Below W.heap.size W W') :
    ReturnsInHanded {} C os f .any (s.pre6 enc C.prog fn [] false) (s.post enc C.prog fn false true false false) := by
  have hpar : ∀ t ∈ fn.params.toList, C.prog.readableRec t = true ∧ t < C.prog.types.size := fun t ht => by
    have := List.all_eq_true.1 hpar0 t ht
    simpa using this
  refine returnsInHanded_of_change_sized own started noInit hfn witness ?_
  intro W base args ds gs before hval hW hcnd hsz _
  have hW' := hW
  obtain ⟨p, q, hA, hV, rfl, hfz, hnd⟩ := hW
  rw [hvars] at hV
  obtain ⟨rfl, rfl⟩ : gs = [] ∧ q = [] := by
    cases gs with
    | nil => exact ⟨rfl, hV⟩
    | cons g gs => exact hV.elim
  have hr := RdAll.of (base := base) hA (fun j t v ht hv => hval j t v (by simpa using ht) (by simpa using hv)) (fun n hn => by
    have hv0 : s.plain.varTypes C.prog = [] := by unfold DataSpec.varTypes ChangeSpec.plain; simp [hvars]
    rw [hv0, List.append_nil, List.append_nil] at hsz
    simpa using List.all_eq_true.1 hsz n hn)
  have hw := walk W args.toList hr
  rw [Array.toArray_toList] at hw
  refine hw.mono fun e W' ⟨he, hb⟩ => ?_
  have hs := hspec ds (trodAll_length hA)
  refine ⟨_, he, ds, [], _, [], p, [], hW', ?_, ?_, ?_, hb.frame _, fun h => by cases h⟩
  · rw [List.append_nil, hs, hres]
    exact trodAll_mk1 (shut_bool hbool _)
  · rw [List.append_nil, hs]
    exact trodAll_stays hlaid hb hpar hA
  · rw [List.append_nil, hs, hvars]; rfl

theorem own : ownKnob Try.prog.godebug = none := by kernel_rfl
theorem laidOut : laidOutB Try.prog = true := by kernel_rfl
end Go.Proofs.Ytlckgnemmffdkaa
