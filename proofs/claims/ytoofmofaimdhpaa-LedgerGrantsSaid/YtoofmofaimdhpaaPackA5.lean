import Derived.Test.YtoofmofaimdhpaaLedCredit
import Derived.Test.YtoofmofaimdhpaaPackA3
import Derived.Test.YtoofmofaimdhpaaPackA4
import Derived.Deep.Cut
import Derived.StillTailTactics
import Derived.Deep.DeepMust
import Derived.Deep.RegionHeld3
set_option linter.unusedVariables false
set_option linter.unusedSimpArgs false
namespace Go.Proofs.Ytoofmofaimdhpaa
open Go.ChangeShapes Go.WideShapes Go.ChangeAt Go.RowKit
set_option maxRecDepth 100000

def RetSA (w : World) (r : St × Ans) (e : Ending) (w' : World) : Prop := ∃ q, e = .returned (.tuple #[Raw.agg q, r.2.agg]) ∧ StAt w' 0 q r.1 ∧ Below w.heap.size w w'
theorem cellsAns0 {w : World} {b : Nat} {t : Ans} (h : w.rangeAt b 0 t.cells) : w.cell? ⟨b, 0, none⟩ = some (.int .i64 t.e) ∧ w.cell? ⟨b, 1, none⟩ = some (.int .i64 t.rate) ∧ w.cell? ⟨b, 2, none⟩ = some (.int .i64 t.burst) ∧ w.cell? ⟨b, 3, none⟩ = some (.int .i64 t.lease) ∧ w.cell? ⟨b, 4, none⟩ = some (.int .i64 t.size) := by
  have h0 := h 0 _ rfl
  have h1 := h 1 _ rfl
  have h2 := h 2 _ rfl
  have h3 := h 3 _ rfl
  have h4 := h 4 _ rfl
  simp only [Nat.zero_add] at h0 h1 h2 h3 h4
  exact ⟨h0, h1, h2, h3, h4⟩
theorem findT_ten {ts : List Tenant} {id : Int} {x : Tenant} (ht : tensOk 0 ts = true) (h : findT ts id = (x, true)) : 0 ≤ x.bucket ∧ x.bucket ≤ 1000000000 := by
  rw [findT_eq id ht] at h
  cases hf : findO ts id with
  | none => rw [hf] at h; cases h
  | some y =>
    rw [hf] at h
    simp only [Prod.mk.injEq, and_true] at h
    subst h
    have := ten_range ht (findO_mem hf).1
    omega
theorem takeI_ways (b sz : Int) : takeI b sz = (0, 170) ∨ takeI b sz = (b - 1000 * sz, 0) := by
  unfold takeI; split
  · exact .inl rfl
  · exact .inr rfl
theorem grant_out {w w' : World} {tmps : Array Value} {res : St × Ans} {r9 : Raw} {a : Ans} (h12 : tmps[12]? = some (.pointer (some ⟨w.heap.size + 1, 0, none⟩))) (h13 : tmps[13]? = some (.pointer (some ⟨w.heap.size + 1 + 1, 0, none⟩)))
    (hx : Box w' (w.heap.size + 1) (Raw.cells r9)) (ha : Box w' (w.heap.size + 1 + 1) (Ans.cells a)) (hs : StAt w' 0 r9 res.1) (he : res.2 = a) (hb : Below w.heap.size w w') :
    ∃ v, (results Try.f11 tmps).run Try.prog w' = .ok v w' ∧ RetSA w res (.returned v) w' := by
  obtain ⟨k0, k1, k2, k3, k4, k5, k6⟩ := cellsSt0 hx.range
  obtain ⟨j0, j1, j2, j3, j4⟩ := cellsAns0 ha.range
  have g12 : tmps[12]! = .pointer (some ⟨w.heap.size + 1, 0, none⟩) := by rw [getElem!_def, h12]
  have g13 : tmps[13]! = .pointer (some ⟨w.heap.size + 1 + 1, 0, none⟩) := by rw [getElem!_def, h13]
  refine ⟨.tuple #[r9.agg, a.agg], ?_, r9, by rw [he], hs, hb⟩
  simp [results, Try.results11, go_sem, g12, g13, h12, h13, k0, k1, k2, k3, k4, k5, k6, j0, j1, j2, j3, j4]

theorem el_leas : Elem Try.prog 23 38 7 56 := layLea.elem Try.underlying23
theorem setS_len (ts : List Tenant) (x : Tenant) : (setS ts x).1.length ≤ ts.length + 1 := by
  unfold setS
  split
  · exact withL_length x ts
  · simp
end Go.Proofs.Ytoofmofaimdhpaa

/- A state of the call's own behind what a grant and a report do to it: rows put in the place of the tenants, a lease appended, a lease let go. -/
namespace Go.Proofs.Ytoofmofaimdhpaa
open Go.ChangeShapes Go.WideShapes Go.ChangeAt Go.RowKit
set_option maxRecDepth 100000

section
variable {P : Program} {e : TypeId} {α : Type} {L : Lay P e α}
theorem LRow.where {w w' : World} {a : Option Addr} {xs : List α} (h : LRow L w a xs) (hk : ∀ b o q, a = some ⟨b, o, q⟩ → b < w.heap.size → w'.heap[b]? = w.heap[b]?) : LRow L w' a xs := by
  by_cases h0 : xs.flatMap L.cells = []
  · exact .inl h0
  · rcases h with h | ⟨b, o, rfl, hc⟩
    · exact absurd h h0
    · have hlt := Row.lt (.inr ⟨b, o, rfl, hc⟩) h0
      exact .inr ⟨b, o, rfl, fun i hi => by rw [World.cell?_of_block (w := w) (hk b o _ rfl hlt)]; exact hc i hi⟩
theorem LRow.grown {w w' : World} {a : Option Addr} {xs : List α} {blk : Option Nat} (h : LRow L w a xs) (hg : w.grownBy w' blk) (hne : ∀ b o q, a = some ⟨b, o, q⟩ → some b ≠ blk) : LRow L w' a xs := h.where fun b o q ha hlt => hg.block b hlt (hne b o q ha)
theorem SliAt.grown {w w' : World} {B : Nat} {s : Sli} {xs : List α} {blk : Option Nat} (h : SliAt L w B s xs) (hg : w.grownBy w' blk) (hne : ∀ b o q, s.a = some ⟨b, o, q⟩ → some b ≠ blk) : SliAt L w' B s xs := ⟨h.len, h.le, h.nil, h.near, h.row.grown hg hne⟩
end
theorem ap_own {a b : Option Addr} {n c : Nat} (h : Ap a b) : ∀ x o q, b = some ⟨x, o, q⟩ → some x ≠ (Value.slice a n c).ownBlock := fun x o q hb e => by
  cases a with
  | none => simp [Value.ownBlock] at e
  | some ad =>
    obtain ⟨y, o', q'⟩ := ad
    simp [Value.ownBlock] at e
    exact h y o' q' x o q rfl hb e.symm
theorem near_of {B E : Nat} {a b : Option Addr} (h : Near E a b) (ha : Near B none a) (hB : B ≤ E) : Near B none b := fun x o q hb => by
  rcases h x o q hb with h1 | ⟨o', q', h1⟩
  · exact .inl (by omega)
  · exact ha x o' q' h1
/-- Tenants put in the place of the state's own: a new row, or the same block. -/
theorem tens_put {w8 w9 : World} {B : Nat} {r : Raw} {s : St} {xa : Option Addr} {ya : Nat} {ts : List Tenant} (h8 : OwnSt w8 B r s) (hB : B ≤ w8.heap.size) (hle : ts.length ≤ ya) (hnil : xa = none → ya = 0) (hnear : Near w8.heap.size r.ten.a xa) (hrow : TRow w9 xa ts) : SliAt layTen w9 B ⟨xa, ts.length, ya⟩ ts :=
  ⟨rfl, hle, hnil, near_of hnear h8.is.ten.near hB, hrow⟩
/-- A grant's state. -/
theorem grown_st {w8 w9 w10 w11 w15 : World} {B g : Nat} {t4 s4 n4 nx : Int} {x1 x2 x3 x4 xa xb : Option Addr} {m1 y1 m2 y2 m3 y3 m4 y4 ya yb : Nat} {s : St} {ts : List Tenant} {l : Lease} {o : Obj}
    (h8 : OwnSt w8 B ⟨t4, s4, n4, ⟨x1, m1, y1⟩, ⟨x2, m2, y2⟩, ⟨x3, m3, y3⟩, ⟨x4, m4, y4⟩⟩ s) (hB : B ≤ w8.heap.size) (hb9 : Below w8.heap.size w8 w9)
    (hle : ts.length ≤ ya) (hnil : xa = none → ya = 0) (hnear : Near w8.heap.size x1 xa) (hrow : TRow w9 xa ts) (hw10 : Wrote g w9 w10) (hg : g < B) (hg11 : (w10.alloc o).grownBy w11 (Value.slice x2 m2 y2).ownBlock)
    (hown : w11.ownsRow B 38 7 (.slice xb (m2 + 1) yb) (m2 + 1) (s.leas.flatMap layLea.cells ++ layLea.cells l)) (hm : Mid B w11.heap.size w11 w15) :
    StAt w15 B ⟨t4, s4, nx, ⟨xa, ts.length, ya⟩, ⟨xb, m2 + 1, yb⟩, ⟨x3, m3, y3⟩, ⟨x4, m4, y4⟩⟩ { s with tens := ts, leas := s.leas ++ [l], next := nx } := by
  have m10 : Mid B w8.heap.size w8 w10 := (Mid.below hb9 (Nat.le_refl _)).wrote hw10 (.inl hg)
  have h10 := h8.mid m10 (Nat.le_refl _) (Nat.le_refl _)
  have t9 := tens_put h8 hB hle hnil hnear hrow
  have t10 : SliAt layTen w10 B ⟨xa, ts.length, ya⟩ ts := t9.mid ((Mid.refl B w9.heap.size w9).wrote hw10 (.inl hg)) (Nat.le_refl _) (Nat.le_refl _)
  have hba : Below w10.heap.size w10 (w10.alloc o) := (Below.refl _ _).alloc (Nat.le_refl _) o
  have hxa : ∀ b q o, xa = some ⟨b, q, o⟩ → some b ≠ (Value.slice x2 m2 y2).ownBlock := fun b q o ha => by
    rcases hnear b q o ha with h1 | ⟨q', o', h1⟩
    · intro e
      cases x2 with
      | none => simp [Value.ownBlock] at e
      | some ad =>
        obtain ⟨y, u, v⟩ := ad
        simp [Value.ownBlock] at e
        have h2 : y < w8.heap.size := h8.lt y u v rfl
        have h3 : w8.heap.size ≤ b := h1
        omega
    · exact ap_own h8.tl.symm b q' o' h1
  have t11 := (t10.below hba).grown hg11 hxa
  have s11 := (h10.is.ses.below hba).grown hg11 (ap_own h8.ls)
  have d11 := (h10.is.dsk.below hba).grown hg11 (ap_own h8.ld)
  have hn2 : s.leas.length = m2 := h8.is.lea.len
  obtain ⟨a', c', hv, hc1, hc2, hc3⟩ := own_slice hown
  simp only [Value.slice.injEq] at hv
  obtain ⟨rfl, _, rfl⟩ := hv
  have l11 : SliAt layLea w11 B ⟨xb, m2 + 1, yb⟩ (s.leas ++ [l]) := ⟨by simp [hn2], hc1, hc3, Near.own hown (Nat.le_refl _), by
    have := own_row hown
    show Row w11 xb ((s.leas ++ [l]).flatMap layLea.cells)
    rw [List.flatMap_append]; simpa using this⟩
  exact ⟨h8.is.term, h8.is.stamp, rfl, t11.mid hm (Nat.le_refl _) (Nat.le_refl _), l11.mid hm (Nat.le_refl _) (Nat.le_refl _), s11.mid hm (Nat.le_refl _) (Nat.le_refl _), d11.mid hm (Nat.le_refl _) (Nat.le_refl _)⟩
/-- The tenants alone put. -/
theorem put_st {w8 w9 w15 : World} {B : Nat} {t4 s4 n4 : Int} {x1 xa : Option Addr} {m1 y1 ya : Nat} {l2 l3 l4 : Sli} {s : St} {ts : List Tenant} (h8 : StAt w8 B ⟨t4, s4, n4, ⟨x1, m1, y1⟩, l2, l3, l4⟩ s) (hB : B ≤ w8.heap.size) (hb9 : Below w8.heap.size w8 w9)
    (hle : ts.length ≤ ya) (hnil : xa = none → ya = 0) (hnear : Near w8.heap.size x1 xa) (hrow : TRow w9 xa ts) (hm : Mid B w9.heap.size w9 w15) : StAt w15 B ⟨t4, s4, n4, ⟨xa, ts.length, ya⟩, l2, l3, l4⟩ { s with tens := ts } := by
  have h9 := h8.below hb9
  have t9 : SliAt layTen w9 B ⟨xa, ts.length, ya⟩ ts := ⟨rfl, hle, hnil, near_of hnear h8.ten.near hB, hrow⟩
  exact ⟨h8.term, h8.stamp, h8.next, t9.mid hm (Nat.le_refl _) (Nat.le_refl _), h9.lea.mid hm (Nat.le_refl _) (Nat.le_refl _), h9.ses.mid hm (Nat.le_refl _) (Nat.le_refl _), h9.dsk.mid hm (Nat.le_refl _) (Nat.le_refl _)⟩
/-- The leases' row alone has turned, in its own block. -/
theorem drop_st {w5 w6 w15 : World} {B g6 : Nat} {t4 s4 n4 : Int} {x2 : Option Addr} {m2 y2 : Nat} {l1 l3 l4 : Sli} {s : St} {fl : List Lease} (h5 : OwnSt w5 B ⟨t4, s4, n4, l1, ⟨x2, m2, y2⟩, l3, l4⟩ s) (hr6 : LRow layLea w6 x2 fl) (hle : fl.length ≤ m2) (ho6 : Only g6 w5 w6) (ha6 : (∃ o q, x2 = some ⟨g6, o, q⟩) ∨ g6 = w5.heap.size) (hm : Mid B w6.heap.size w6 w15) :
    StAt w15 B ⟨t4, s4, n4, l1, ⟨x2, fl.length, y2⟩, l3, l4⟩ { s with leas := fl } := by
  have h2 : m2 ≤ y2 := h5.is.lea.le
  have l6 : SliAt layLea w6 B ⟨x2, fl.length, y2⟩ fl := ⟨rfl, by show fl.length ≤ y2; omega, h5.is.lea.nil, h5.is.lea.near, hr6⟩
  exact ⟨h5.is.term, h5.is.stamp, h5.is.next, (h5.is.ten.apart ho6 h5.tl.symm ha6).mid hm (Nat.le_refl _) (Nat.le_refl _), l6.mid hm (Nat.le_refl _) (Nat.le_refl _), (h5.is.ses.apart ho6 h5.ls ha6).mid hm (Nat.le_refl _) (Nat.le_refl _), (h5.is.dsk.apart ho6 h5.ld ha6).mid hm (Nat.le_refl _) (Nat.le_refl _)⟩
theorem box_put {P : Program} {e : TypeId} {α : Type} {L : Lay P e α} {w : World} {g : Nat} {cs : List Value} (z : α) (h : Box w g cs) (hl : cs.length = L.size) : Box (w.setCells g 0 (L.cells z)) g (L.cells z) ∧ Wrote g w (w.setCells g 0 (L.cells z)) := by
  have ht : w.there g 0 L.size := by rw [← hl]; exact h.there
  exact ⟨⟨range_put z ht, by rw [L.len]; exact World.there_setCells ht _ _ _⟩, ⟨fun _ hB => Below.setCells hB _ _ (Below.refl _ _), setCells_size _ _ _ _, fun k hk => setCells_keep g _ _ _ k hk⟩⟩
/-- Two variables written one behind the other, and a draw. -/
theorem two_wrote {w w14 w15 : World} {g : Nat} {c1 c2 : List Value} {F : World → Prop} (p14 : Box w14 (g + 1) c1 ∧ Wrote (g + 1) w w14) (p15 : Box w15 (g + 1 + 1) c2 ∧ Wrote (g + 1 + 1) w14 w15)
    (hq : ∀ w', Box w' (g + 1) c1 → Box w' (g + 1 + 1) c2 → w'.heap.size = w.heap.size → (∀ k, k ≠ g + 1 → k ≠ g + 1 + 1 → w'.heap[k]? = w.heap[k]?) → (∀ B, B ≤ g + 1 → Below B w w') → F w') : F w15.drew :=
  hq _ (p14.1.wrote p15.2 (by omega)).drew p15.1.drew (p15.2.size.trans p14.2.size) (fun k e1 e2 => (p15.2.keep k e2).trans (p14.2.keep k e1)) (fun B hB => ((p14.2.below B hB).trans (p15.2.below B (by omega))).drew)
end Go.Proofs.Ytoofmofaimdhpaa

/- What a report hands back; five variables laid. -/
namespace Go.Proofs.Ytoofmofaimdhpaa
open Go.ChangeShapes Go.WideShapes Go.ChangeAt Go.RowKit
set_option maxRecDepth 100000

theorem Box.of_alloc3 {w w' : World} {o o' o'' : Obj} {cs : List Value} {t : TypeId} (hb : Below ((((w.alloc o).alloc o').alloc o'').alloc (.cells cs.toArray t)).heap.size ((((w.alloc o).alloc o').alloc o'').alloc (.cells cs.toArray t)) w') : Box w' (w.heap.size + 1 + 1 + 1) cs := by
  have := Box.of_alloc hb
  rw [World.size_alloc, World.size_alloc, World.size_alloc] at this; exact this
theorem Box.of_alloc4 {w w' : World} {o o' o'' o3 : Obj} {cs : List Value} {t : TypeId} (hb : Below (((((w.alloc o).alloc o').alloc o'').alloc o3).alloc (.cells cs.toArray t)).heap.size (((((w.alloc o).alloc o').alloc o'').alloc o3).alloc (.cells cs.toArray t)) w') : Box w' (w.heap.size + 1 + 1 + 1 + 1) cs := by
  have := Box.of_alloc hb
  rw [World.size_alloc, World.size_alloc, World.size_alloc, World.size_alloc] at this; exact this
def RetSE (w : World) (r : St × Int) (e : Ending) (w' : World) : Prop := ∃ q, e = .returned (.tuple #[Raw.agg q, .int .i64 r.2]) ∧ StAt w' 0 q r.1 ∧ Below w.heap.size w w'
theorem report_out {w w' : World} {tmps : Array Value} {res : St × Int} {g : Nat} {r9 : Raw} {e : Int} (h12 : tmps[12]? = some (.pointer (some ⟨g, 0, none⟩))) (h13 : tmps[13]? = some (.int .i64 e))
    (hx : Box w' g (Raw.cells r9)) (hs : StAt w' 0 r9 res.1) (he : res.2 = e) (hb : Below w.heap.size w w') :
    ∃ v, (results Try.f22 tmps).run Try.prog w' = .ok v w' ∧ RetSE w res (.returned v) w' := by
  obtain ⟨k0, k1, k2, k3, k4, k5, k6⟩ := cellsSt0 hx.range
  have g12 : tmps[12]! = .pointer (some ⟨g, 0, none⟩) := by rw [getElem!_def, h12]
  have g13 : tmps[13]! = .int .i64 e := by rw [getElem!_def, h13]
  refine ⟨.tuple #[r9.agg, .int .i64 e], ?_, r9, by rw [he], hs, hb⟩
  simp [results, Try.results22, go_sem, g12, g13, h12, h13, k0, k1, k2, k3, k4, k5, k6]
/-- The same, and its rows are new. -/
def RetSEN (w : World) (r : St × Int) (e : Ending) (w' : World) : Prop := ∃ q, e = .returned (.tuple #[Raw.agg q, .int .i64 r.2]) ∧ StAt w' w.heap.size q r.1 ∧ Below w.heap.size w w'
theorem RetSEN.se {w w' : World} {r : St × Int} {e : Ending} (h : RetSEN w r e w') : RetSE w r e w' := let ⟨q, h1, h2, h3⟩ := h; ⟨q, h1, h2.mono (Nat.zero_le _), h3⟩
theorem report_outN {w w' : World} {tmps : Array Value} {res : St × Int} {g : Nat} {r9 : Raw} {e : Int} (h12 : tmps[12]? = some (.pointer (some ⟨g, 0, none⟩))) (h13 : tmps[13]? = some (.int .i64 e))
    (hx : Box w' g (Raw.cells r9)) (hs : StAt w' w.heap.size r9 res.1) (he : res.2 = e) (hb : Below w.heap.size w w') :
    ∃ v, (results Try.f22 tmps).run Try.prog w' = .ok v w' ∧ RetSEN w res (.returned v) w' := by
  refine ⟨.tuple #[r9.agg, .int .i64 e], ?_, r9, by rw [he], hs, hb⟩
  obtain ⟨k0, k1, k2, k3, k4, k5, k6⟩ := cellsSt0 hx.range
  have g12 : tmps[12]! = .pointer (some ⟨g, 0, none⟩) := by rw [getElem!_def, h12]
  have g13 : tmps[13]! = .int .i64 e := by rw [getElem!_def, h13]
  simp [results, Try.results22, go_sem, g12, g13, h12, h13, k0, k1, k2, k3, k4, k5, k6]
end Go.Proofs.Ytoofmofaimdhpaa

namespace Go.Proofs.Ytoofmofaimdhpaa
open Go.ChangeShapes Go.WideShapes Go.ChangeAt Go.RowKit
set_option maxRecDepth 100000

set_option maxHeartbeats 16000000 in
theorem report_no (s : St) (r : Raw) (B : Nat) (sh ep le sp : Int) (cl : Bool) (w : World) (h : StAt w B r s) (hl1' : s.tens.length ≤ 800) (hl2 : s.leas.length ≤ 900) (hl3 : s.sess.length ≤ 900) (hl4 : s.dsks.length ≤ 900)
    (hok : stOk s = false) :
    Calls Try.prog 22 #[r.agg, .int .i64 sh, .int .i64 ep, .int .i64 le, .int .i64 sp, .bool cl] w (RetSE w (s, 2)) := by
  have hl1 : s.tens.length ≤ 900 := by omega
  have hmf : ∀ (fn : Fn) (first cap : Array Value) (w : World), (Instr.makeFunc fn first cap).run Try.prog w = .ok (.func fn first cap) w := fun _ _ _ _ => rfl
  have HS := Lib.hid h
  have HL := Lib.hid (And.intro hl1 (And.intro hl2 (And.intro hl3 hl4)))
  have HCK := Lib.hid (fun w' (hb : Below w.heap.size w w') => check_st s r B w' (h.below hb) hl1 hl2)
  have HOK := Lib.hid hok
  obtain ⟨term, stamp, next, ⟨a1, n1, c1⟩, ⟨a2, n2, c2⟩, ⟨a3, n3, c3⟩, ⟨a4, n4, c4⟩⟩ := r
  have hn2 : s.leas.length = n2 := h.lea.len
  subst hn2
  have HBX : Hid (∀ w', Below (((((w.alloc (.cells #[.int .i64 term, .int .i64 stamp, .int .i64 next, .slice a1 n1 c1, .slice a2 s.leas.length c2, .slice a3 n3 c3, .slice a4 n4 c4] 27)).alloc (.cells #[.int .i64 sh] 3)).alloc (.cells #[.int .i64 ep] 3)).alloc (.cells #[.int .i64 le] 3)).alloc (.cells #[.int .i64 0, .int .i64 0, .int .i64 0, .slice none 0 0, .slice none 0 0, .slice none 0 0, .slice none 0 0] 27)).heap.size (((((w.alloc (.cells #[.int .i64 term, .int .i64 stamp, .int .i64 next, .slice a1 n1 c1, .slice a2 s.leas.length c2, .slice a3 n3 c3, .slice a4 n4 c4] 27)).alloc (.cells #[.int .i64 sh] 3)).alloc (.cells #[.int .i64 ep] 3)).alloc (.cells #[.int .i64 le] 3)).alloc (.cells #[.int .i64 0, .int .i64 0, .int .i64 0, .slice none 0 0, .slice none 0 0, .slice none 0 0, .slice none 0 0] 27)) w' →
      Box w' w.heap.size (Raw.cells ⟨term, stamp, next, ⟨a1, n1, c1⟩, ⟨a2, s.leas.length, c2⟩, ⟨a3, n3, c3⟩, ⟨a4, n4, c4⟩⟩) ∧ Box w' (w.heap.size + 1) [.int .i64 sh] ∧ Box w' (w.heap.size + 1 + 1) [.int .i64 ep] ∧ Box w' (w.heap.size + 1 + 1 + 1) [.int .i64 le] ∧ Box w' (w.heap.size + 1 + 1 + 1 + 1) (Raw.cells ⟨0, 0, 0, ⟨none, 0, 0⟩, ⟨none, 0, 0⟩, ⟨none, 0, 0⟩, ⟨none, 0, 0⟩⟩) ∧ w.heap.size + 5 ≤ w'.heap.size) :=
    fun w' hb => ⟨Box.of_alloc (mid_alloc' (mid_alloc' (mid_alloc' (mid_alloc' hb)))), Box.of_alloc1 (mid_alloc' (mid_alloc' (mid_alloc' hb))), Box.of_alloc2 (mid_alloc' (mid_alloc' hb)), Box.of_alloc3 (mid_alloc' hb), Box.of_alloc4 hb, by have := hb.size; simp at this; omega⟩
  clear h hl1 hl2 hl3 hl4 hok
  go_enter_defers Try.func22, Try.ntmps22
  go_wp2_with (first
      | (refine wpList_store_whole laySt rfl (.tmp 12) (.tmp 22) rfl (w.heap.size + 1 + 1 + 1 + 1) ⟨term, stamp, next, ⟨a1, n1, c1⟩, ⟨a2, s.leas.length, c2⟩, ⟨a3, n3, c3⟩, ⟨a4, n4, c4⟩⟩ _ rfl rfl HX3.out.2.2.2.2.1 rfl ?_; intro w8 hbx8 hw8; have HX8 := Lib.hid hbx8; have HW8 := Lib.hid hw8; clear hbx8 hw8)
      | (go_at_call 19; ((with_reducible refine (HCK.out _ (by repeat' (first | (with_reducible exact Below.refl _ _) | (with_reducible assumption) | (with_reducible refine Below.drew ?_) | (with_reducible refine Below.more ?_ _) | (with_reducible refine Below.put ?_ ?_ _) | (with_reducible refine Below.next ?_ (by with_reducible assumption)) | (with_reducible exact Nat.le_refl _) | (with_reducible refine Below.size' ?_) | omega))).mono ?_); rw [HOK.out]; rintro e w3 ⟨rfl, hb3⟩; have HX3 := Lib.hid (HBX.out w3 (by repeat' (first | (with_reducible exact Below.refl _ _) | (with_reducible assumption) | (with_reducible refine Below.drew ?_) | (with_reducible refine Below.more ?_ _) | (with_reducible refine Below.put ?_ ?_ _) | (with_reducible refine Below.next ?_ (by with_reducible assumption)) | (with_reducible exact Nat.le_refl _) | (with_reducible refine Below.size' ?_) | omega)))))
      | (refine wpList_load_as laySt rfl (.tmp 6) rfl w.heap.size 0 rfl ⟨term, stamp, next, ⟨a1, n1, c1⟩, ⟨a2, s.leas.length, c2⟩, ⟨a3, n3, c3⟩, ⟨a4, n4, c4⟩⟩ (.agg #[.int .i64 term, .int .i64 stamp, .int .i64 next, .slice a1 n1 c1, .slice a2 s.leas.length c2, .slice a3 n3 c3, .slice a4 n4 c4]) rfl (HBX.out _ (by repeat' (first | (with_reducible exact Below.refl _ _) | (with_reducible assumption) | (with_reducible refine Below.drew ?_) | (with_reducible refine Below.more ?_ _) | (with_reducible refine Below.put ?_ ?_ _) | (with_reducible refine Below.next ?_ (by with_reducible assumption)) | (with_reducible exact Nat.le_refl _) | (with_reducible refine Below.size' ?_) | omega))).1.range ?_))
  have b3 : Below w.heap.size w w3 := (by repeat' (first | (with_reducible exact Below.refl _ _) | (with_reducible assumption) | (with_reducible refine Below.drew ?_) | (with_reducible refine Below.more ?_ _) | (with_reducible refine Below.put ?_ ?_ _) | (with_reducible refine Below.next ?_ (by with_reducible assumption)) | (with_reducible exact Nat.le_refl _) | (with_reducible refine Below.size' ?_) | omega))
  have b8 : Below w.heap.size w w8 := b3.trans (HW8.out.below _ (by omega))
  exact report_out (g := (w.heap.size + 1 + 1 + 1 + 1)) (e := 2) rfl rfl HX8.out ((HS.out.below b8).mono (Nat.zero_le _)) rfl b8
end Go.Proofs.Ytoofmofaimdhpaa

namespace Go.Proofs.Ytoofmofaimdhpaa
open Go.ChangeShapes Go.WideShapes Go.ChangeAt Go.RowKit
set_option maxRecDepth 100000

set_option maxHeartbeats 16000000 in
theorem report_none (s : St) (r : Raw) (B : Nat) (sh ep le sp : Int) (cl : Bool) (w : World) (h : StAt w B r s) (hl1' : s.tens.length ≤ 800) (hl2 : s.leas.length ≤ 900) (hl3 : s.sess.length ≤ 900) (hl4 : s.dsks.length ≤ 900)
    (hok : stOk s = true) (hix : idxL (leaIs sh ep le) s.leas = -1) :
    Calls Try.prog 22 #[r.agg, .int .i64 sh, .int .i64 ep, .int .i64 le, .int .i64 sp, .bool cl] w (RetSEN w (sweptS s, 180)) := by
  have hl1 : s.tens.length ≤ 900 := by omega
  have hmf : ∀ (fn : Fn) (first cap : Array Value) (w : World), (Instr.makeFunc fn first cap).run Try.prog w = .ok (.func fn first cap) w := fun _ _ _ _ => rfl
  have HS := Lib.hid h
  have HL := Lib.hid (And.intro hl1 (And.intro hl2 (And.intro hl3 hl4)))
  have HCK := Lib.hid (fun w' (hb : Below w.heap.size w w') => check_st s r B w' (h.below hb) hl1 hl2)
  have HOK := Lib.hid hok
  have HFIT := Lib.hid (stOk_ten hok).2
  have HCP := Lib.hid (fun w' (hb : Below w.heap.size w w') => copied_st s r B w' (h.below hb) hl1 hl2 hl3 hl4)
  have HPF := Lib.hid (fun te w' (hb : Below w.heap.size w w') => pfind_any s.tens r.ten.a r.ten.n r.ten.c te w' h.ten.len (le_maxLen (by omega)) (Row.below h.trow hb))
  have HPL := Lib.hid (fun gl gs ge w' (hb : Below w.heap.size w w') (hc1 : w'.cell? ⟨gl, 0, none⟩ = some (.int .i64 le)) (hc2 : w'.cell? ⟨gs, 0, none⟩ = some (.int .i64 sh)) (hc3 : w'.cell? ⟨ge, 0, none⟩ = some (.int .i64 ep)) => place_lea s.leas r.lea.a r.lea.n r.lea.c 53 #[.pointer (some ⟨gl, 0, none⟩), .pointer (some ⟨gs, 0, none⟩), .pointer (some ⟨ge, 0, none⟩)] (leaIs sh ep le) w' h.lea.len (le_maxLen (by have := h.lea.len; omega)) (h.lea.row.below hb) enter_report2
    (fun x _ w'' hb' => report2_any x sh ep le gl gs ge w'' ((hb'.cell (p := ⟨gl, 0, none⟩) (World.block_lt_of_cell? w' _ hc1)).trans hc1) ((hb'.cell (p := ⟨gs, 0, none⟩) (World.block_lt_of_cell? w' _ hc2)).trans hc2) ((hb'.cell (p := ⟨ge, 0, none⟩) (World.block_lt_of_cell? w' _ hc3)).trans hc3)))
  have HI := Lib.hid hix
  obtain ⟨term, stamp, next, ⟨a1, n1, c1⟩, ⟨a2, n2, c2⟩, ⟨a3, n3, c3⟩, ⟨a4, n4, c4⟩⟩ := r
  have hn2 : s.leas.length = n2 := h.lea.len
  subst hn2
  have HBX : Hid (∀ w', Below (((((w.alloc (.cells #[.int .i64 term, .int .i64 stamp, .int .i64 next, .slice a1 n1 c1, .slice a2 s.leas.length c2, .slice a3 n3 c3, .slice a4 n4 c4] 27)).alloc (.cells #[.int .i64 sh] 3)).alloc (.cells #[.int .i64 ep] 3)).alloc (.cells #[.int .i64 le] 3)).alloc (.cells #[.int .i64 0, .int .i64 0, .int .i64 0, .slice none 0 0, .slice none 0 0, .slice none 0 0, .slice none 0 0] 27)).heap.size (((((w.alloc (.cells #[.int .i64 term, .int .i64 stamp, .int .i64 next, .slice a1 n1 c1, .slice a2 s.leas.length c2, .slice a3 n3 c3, .slice a4 n4 c4] 27)).alloc (.cells #[.int .i64 sh] 3)).alloc (.cells #[.int .i64 ep] 3)).alloc (.cells #[.int .i64 le] 3)).alloc (.cells #[.int .i64 0, .int .i64 0, .int .i64 0, .slice none 0 0, .slice none 0 0, .slice none 0 0, .slice none 0 0] 27)) w' →
      Box w' w.heap.size (Raw.cells ⟨term, stamp, next, ⟨a1, n1, c1⟩, ⟨a2, s.leas.length, c2⟩, ⟨a3, n3, c3⟩, ⟨a4, n4, c4⟩⟩) ∧ Box w' (w.heap.size + 1) [.int .i64 sh] ∧ Box w' (w.heap.size + 1 + 1) [.int .i64 ep] ∧ Box w' (w.heap.size + 1 + 1 + 1) [.int .i64 le] ∧ Box w' (w.heap.size + 1 + 1 + 1 + 1) (Raw.cells ⟨0, 0, 0, ⟨none, 0, 0⟩, ⟨none, 0, 0⟩, ⟨none, 0, 0⟩, ⟨none, 0, 0⟩⟩) ∧ w.heap.size + 5 ≤ w'.heap.size) :=
    fun w' hb => ⟨Box.of_alloc (mid_alloc' (mid_alloc' (mid_alloc' (mid_alloc' hb)))), Box.of_alloc1 (mid_alloc' (mid_alloc' (mid_alloc' hb))), Box.of_alloc2 (mid_alloc' (mid_alloc' hb)), Box.of_alloc3 (mid_alloc' hb), Box.of_alloc4 hb, by have := hb.size; simp at this; omega⟩
  clear h hl1 hl2 hl3 hl4 hok hix
  go_enter_defers Try.func22, Try.ntmps22
  go_wp2_with (first
      | (refine wpList_store_whole laySt rfl (.tmp 12) (.tmp 35) rfl (w.heap.size + 1 + 1 + 1 + 1) ⟨t4, s4, n4, ⟨x1, m1, y1⟩, ⟨x2, m2, y2⟩, ⟨x3, m3, y3⟩, ⟨x4, m4, y4⟩⟩ _ rfl rfl HX6.out rfl ?_; intro w20 hbx20 hw20; have HX20 := Lib.hid hbx20; have HW20 := Lib.hid hw20; have q20 := Nat.le_of_eq hw20.size; have q20' := Nat.le_of_eq hw20.size.symm; clear hbx20 hw20)
      | (refine wpList_load_as laySt rfl (.tmp 12) rfl (w.heap.size + 1 + 1 + 1 + 1) 0 rfl ⟨t4, s4, n4, ⟨x1, m1, y1⟩, ⟨x2, m2, y2⟩, ⟨x3, m3, y3⟩, ⟨x4, m4, y4⟩⟩ (.agg #[.int .i64 t4, .int .i64 s4, .int .i64 n4, .slice x1 m1 y1, .slice x2 m2 y2, .slice x3 m3 y3, .slice x4 m4 y4]) rfl HX6.out.range ?_)
      | (go_at_call 41; have hpl := HPL.out (w.heap.size + 1 + 1 + 1) (w.heap.size + 1) (w.heap.size + 1 + 1) w5 HB45.out HP5.out.1 HP5.out.2.1 HP5.out.2.2; ((with_reducible refine hpl.mono ?_); clear hpl; rw [HI.out]; rintro e w6 ⟨rfl, hb6⟩; have HB6 := Lib.hid (HB45.out.trans (hb6.mono (by omega))); have HX6 := Lib.hid (HX5.out.below hb6 (by omega)); have HS6 := Lib.hid (HS5.out.below hb6 (by omega)); have HST6 := Lib.hid (HST5.out.mid (Mid.below hb6 (Nat.le_refl _) : Mid w3.heap.size w5.heap.size w5 w6) (Nat.le_refl _) (Nat.le_refl _)); have q6 := hb6.size; clear k4; have k4 := HS6.out.cell (j := 4) rfl))
      | (refine wpList_store_whole laySt rfl (.tmp 12) (.tmp 25) rfl (w.heap.size + 1 + 1 + 1 + 1) ⟨t4, s4, n4, ⟨x1, m1, y1⟩, ⟨x2, m2, y2⟩, ⟨x3, m3, y3⟩, ⟨x4, m4, y4⟩⟩ _ rfl rfl HX4.out.2.2.2.2.1 rfl ?_; intro w5 hbx5 hw5; have HX5 := Lib.hid hbx5; have q3 := HX3.out.2.2.2.2.2; have HST5 := Lib.hid (HST4.out.mid (Mid.wrote (Mid.refl w3.heap.size w4.heap.size w4) hw5 (.inl (by omega))) (Nat.le_refl _) (Nat.le_refl _)); have HS5 := Lib.hid (HX4.out.1.wrote hw5 (by omega)); have HP5 := Lib.hid (And.intro ((HX4.out.2.2.2.1.wrote hw5 (by omega)).cell (j := 0) rfl) (And.intro ((HX4.out.2.1.wrote hw5 (by omega)).cell (j := 0) rfl) ((HX4.out.2.2.1.wrote hw5 (by omega)).cell (j := 0) rfl))); have hb5 : Below (w.heap.size + 1 + 1 + 1 + 1) w4 w5 := hw5.below _ (Nat.le_refl _); have HB45 : Hid (Below w.heap.size w w5) := Below.trans (show Below w.heap.size w w4 from (by repeat' (first | (with_reducible exact Below.refl _ _) | (with_reducible assumption) | (with_reducible refine Below.drew ?_) | (with_reducible refine Below.more ?_ _) | (with_reducible refine Below.put ?_ ?_ _) | (with_reducible refine Below.next ?_ (by with_reducible assumption)) | (with_reducible exact Nat.le_refl _) | (with_reducible refine Below.size' ?_) | omega))) (hb5.mono (by omega)); have q5 := Nat.le_of_eq hw5.size; have q5' := Nat.le_of_eq hw5.size.symm; have q34 := hb4.size; have k4 := HS5.out.cell (j := 4) rfl; clear hbx5 hw5)
      | (go_at_call 31; ((with_reducible refine (HCP.out _ (by repeat' (first | (with_reducible exact Below.refl _ _) | (with_reducible assumption) | (with_reducible refine Below.drew ?_) | (with_reducible refine Below.more ?_ _) | (with_reducible refine Below.put ?_ ?_ _) | (with_reducible refine Below.next ?_ (by with_reducible assumption)) | (with_reducible exact Nat.le_refl _) | (with_reducible refine Below.size' ?_) | omega))).mono ?_); rintro e w4 ⟨⟨t4, s4, n4, ⟨x1, m1, y1⟩, ⟨x2, m2, y2⟩, ⟨x3, m3, y3⟩, ⟨x4, m4, y4⟩⟩, rfl, hst4, hb4⟩; have HST4 := Lib.hid hst4; have HX4 := Lib.hid (HBX.out w4 (by repeat' (first | (with_reducible exact Below.refl _ _) | (with_reducible assumption) | (with_reducible refine Below.drew ?_) | (with_reducible refine Below.more ?_ _) | (with_reducible refine Below.put ?_ ?_ _) | (with_reducible refine Below.next ?_ (by with_reducible assumption)) | (with_reducible exact Nat.le_refl _) | (with_reducible refine Below.size' ?_) | omega))); clear hst4))
      | (go_at_call 19; ((with_reducible refine (HCK.out _ (by repeat' (first | (with_reducible exact Below.refl _ _) | (with_reducible assumption) | (with_reducible refine Below.drew ?_) | (with_reducible refine Below.more ?_ _) | (with_reducible refine Below.put ?_ ?_ _) | (with_reducible refine Below.next ?_ (by with_reducible assumption)) | (with_reducible exact Nat.le_refl _) | (with_reducible refine Below.size' ?_) | omega))).mono ?_); rw [HOK.out]; rintro e w3 ⟨rfl, hb3⟩; have HX3 := Lib.hid (HBX.out w3 (by repeat' (first | (with_reducible exact Below.refl _ _) | (with_reducible assumption) | (with_reducible refine Below.drew ?_) | (with_reducible refine Below.more ?_ _) | (with_reducible refine Below.put ?_ ?_ _) | (with_reducible refine Below.next ?_ (by with_reducible assumption)) | (with_reducible exact Nat.le_refl _) | (with_reducible refine Below.size' ?_) | omega)))))
      | (refine wpList_load_as laySt rfl (.tmp 6) rfl w.heap.size 0 rfl ⟨term, stamp, next, ⟨a1, n1, c1⟩, ⟨a2, s.leas.length, c2⟩, ⟨a3, n3, c3⟩, ⟨a4, n4, c4⟩⟩ (.agg #[.int .i64 term, .int .i64 stamp, .int .i64 next, .slice a1 n1 c1, .slice a2 s.leas.length c2, .slice a3 n3 c3, .slice a4 n4 c4]) rfl (HBX.out _ (by repeat' (first | (with_reducible exact Below.refl _ _) | (with_reducible assumption) | (with_reducible refine Below.drew ?_) | (with_reducible refine Below.more ?_ _) | (with_reducible refine Below.put ?_ ?_ _) | (with_reducible refine Below.next ?_ (by with_reducible assumption)) | (with_reducible exact Nat.le_refl _) | (with_reducible refine Below.size' ?_) | omega))).1.range ?_))
  have S20 : StAt w20 w3.heap.size ⟨t4, s4, n4, ⟨x1, m1, y1⟩, ⟨x2, m2, y2⟩, ⟨x3, m3, y3⟩, ⟨x4, m4, y4⟩⟩ s := HST6.out.is.mid (Mid.wrote (Mid.refl w3.heap.size w6.heap.size w6) HW20.out (.inl (by omega))) (Nat.le_refl _) (Nat.le_refl _)
  have b20 : Below w.heap.size w w20 := HB6.out.trans (HW20.out.below _ (by omega))
  refine door_only (report1_d w3.heap.size (w.heap.size + 1 + 1 + 1 + 1) s .returning w20 (sweep_st s _ w3.heap.size (w.heap.size + 1 + 1 + 1 + 1) w20 HX20.out S20 (by omega) (by omega) HFIT.out HL.out.1 HL.out.2.1)) (by simp [go_sem]) ?_
  intro w' r9 hbxr hstr hor
  exact report_outN (g := (w.heap.size + 1 + 1 + 1 + 1)) (r9 := r9) (e := 180) rfl rfl hbxr (hstr.mono (by omega)) rfl (b20.trans (hor.below (by omega) (by omega)))
end Go.Proofs.Ytoofmofaimdhpaa
