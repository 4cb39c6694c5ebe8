import Derived.Test.YtmihgdjnjfjjcaaFolBegin
import Derived.Test.YtmihgdjnjfjjcaaPackFollowComes1
import Derived.WalkSpells
import Derived.Deep.RegionHeld3
set_option linter.unusedVariables false
set_option linter.unusedSimpArgs false
/- The same progress, one by one (weirlaw11.same). -/
namespace Go.Proofs.Ytmihgdjnjfjjcaa
open Go.ChangeShapes Go.WideShapes Go.ChangeAt Go.RowKit
set_option maxRecDepth 100000

theorem neq_same (x : Prg) (w : World) : (binOp .neq 39 (.agg #[.int .i64 x.node, .int .i64 x.mat, .int .i64 x.next]) (.agg #[.int .i64 x.node, .int .i64 x.mat, .int .i64 x.next])).run Try.prog w = .ok (.bool false) w := by
  have h := neqPrg_run x x w
  rw [decide_eq_true rfl] at h
  exact h
set_option maxHeartbeats 4000000 in
theorem same_any (xs : List Prg) (a1 a2 : Option Addr) (n c1 c2 : Nat) (w : World) (hn : xs.length = n) (hl : n ≤ 1000000) (h1 : LRow layPrg w a1 xs) (h2 : LRow layPrg w a2 xs) :
    Calls Try.prog 18 #[.slice a1 n c1, .slice a2 n c2] w (RetSame w true) := by
  have HN := Lib.hid hn
  have H1 := Lib.hid (fun k (hk : k < xs.length) => atPrg h1 hk)
  have H2 := Lib.hid (fun k (hk : k < xs.length) => atPrg h2 hk)
  clear hn h1 h2
  go_enter Try.func18, Try.ntmps18
  go_wp2_with fail
  go_loopw [13] (fun i wr => ∃ k : Nat, k ≤ n ∧ i = .int .i64 k ∧ Hid (Below w.heap.size w wr)) (fun i _ => n - (intOf i).toNat)
  case atStart => exact ⟨0, Nat.zero_le _, rfl, Below.refl _ _⟩
  case round =>
    obtain ⟨k, hk, rfl, HB⟩ := hrel
    by_cases hlt : k < n
    · have hke : k < xs.length := by rw [HN.out]; exact hlt
      obtain ⟨b1, o1, ha1, hc1⟩ := H1.out k hke
      obtain ⟨b2, o2, ha2, hc2⟩ := H2.out k hke
      subst ha1 ha2
      have ⟨i0, i1, i2⟩ := hc1 _ HB.out
      have ⟨j0, j1, j2⟩ := hc2 _ HB.out
      clear hc1 hc2 H1 H2
      have hq := fun w' => neq_same xs[k] w'
      generalize xs[k] = x at i0 i1 i2 j0 j1 j2 hq
      obtain ⟨x0, x1, x2⟩ := x
      simp only at i0 i1 i2 j0 j1 j2 hq
      have g1 : (0 : Int) ≤ (k : Int) := by omega
      have g2 : (k : Int) < (n : Int) := by omega
      go_wp2_with fail
      go_quiet (fail)
      go_wp2_with fail
      go_roundw
      case rel => exact ⟨k + 1, by omega, by go_num, below_drewN HB.out _⟩
      case measure => simp [intOf]; omega
    · obtain rfl : k = n := by omega
      go_wp2_with fail
      go_ret
      exact ⟨rfl, HB.out⟩
end Go.Proofs.Ytmihgdjnjfjjcaa

/- slices.Clone: the same things in a row that may be written. -/
namespace Go.Proofs.Ytmihgdjnjfjjcaa
open Go.ChangeShapes Go.WideShapes Go.ChangeAt Go.RowKit
set_option maxRecDepth 100000

def RetOwnPrg (w : World) (xs : List Prg) (e : Ending) (w' : World) : Prop :=
  ∃ a c, e = .returned (.slice a xs.length c) ∧ Near w.heap.size none a ∧ Can w' w.heap.size 39 (layPrg).size a xs.length c (xs.flatMap (layPrg).cells) ∧
    (0 < xs.length → w'.ownsRow w.heap.size 39 (layPrg).size (.slice a xs.length c) xs.length (xs.flatMap (layPrg).cells)) ∧ (∀ b o s, a = some ⟨b, o, s⟩ → b < w'.heap.size) ∧ Below w.heap.size w w'

theorem clonePrg (xs : List Prg) (a : Option Addr) (n c : Nat) (w : World) (hn : xs.length = n) (hby : n * (layPrg).bytes ≤ 140737488355328) (hm : n ≤ maxLen) (hc : a = none → c = 0) (hnc : n ≤ c) (hr : LRow layPrg w a xs) :
    Calls Try.prog 37 #[.slice a n c] w (RetOwnPrg w xs) := by
  subst hn
  cases a with
  | none =>
    obtain rfl := hc rfl
    have h0 : xs.length = 0 := by omega
    obtain rfl : xs = [] := List.eq_nil_of_length_eq_zero h0
    go_enter Try.func37, Try.ntmps37
    have hnil := Lib.run_eql_slice_nil (P := Try.prog) w 25 39 none 0 0 0 0 Try.underlying25
    go_wp2
    go_returns
    exact ⟨none, 0, rfl, Near.nil _ _, Can.nil _ _ _ _, fun h => absurd h (by simp), fun _ _ _ h => (by cases h), Below.refl _ _⟩
  | some x =>
    have HR := Lib.hid hr
    clear hr
    go_enter Try.func37, Try.ntmps37
    have hnil := Lib.run_eql_slice_nil (P := Try.prog) w 25 39 (some x) xs.length c 0 0 Try.underlying25
    go_wp2_with (at_builtin; refine wpList_can ((layPrg).elem Try.underlying25) rfl _ _ rfl w.heap.size _ 0 _ _ rfl (Can.empty _ _ _ _ _) _ xs.length _ (xs.flatMap (layPrg).cells) rfl ((layPrg).length _) (Row.alloc HR.out _) ((layPrg).ones _) (by rw [Nat.zero_add]; exact hby) (by simp) ?_; intro a' c' w3 hcan3 _ hb3 hown)
    go_returns
    rw [Nat.zero_add, List.nil_append] at hcan3 hown
    have hnear : Near w.heap.size none a' := by
      by_cases h0 : 0 < xs.length
      · exact Near.own (hown.1 h0) (Nat.le_refl _)
      · rw [(hown.2 (by omega)).1]
        intro b o s hb
        simp at hb
        exact .inl (by omega)
    have hblt : ∀ b o s, a' = some ⟨b, o, s⟩ → b < w3.heap.size := fun b o s hab => by
      by_cases h0 : 0 < xs.length
      · exact ((hown.1 h0).lt b (by rw [hab]; rfl)).2
      · have h1 := hb3.size
        rw [(hown.2 (by omega)).1] at hab
        simp at hab h1
        omega
    exact ⟨a', c', rfl, hnear, hcan3, fun h => hown.1 h, hblt, ((Below.refl _ _).alloc (Nat.le_refl _) _).trans hb3⟩
end Go.Proofs.Ytmihgdjnjfjjcaa

/- A drawn region: an operation that its guard strikes may be taken first. -/
namespace Go.Proofs.Ytmihgdjnjfjjcaa
open Go

section
variable {P : Program} {ops : Array Oper} {Q : Exit → Act → World → Prop} {md : Region.Mode} {S : World → Prop}
theorem wpAnyH_skip (i : Nat) (d : Option Tmp) {fuel : Nat} {listed : Array Bool} {a : Act} {w : World} (hi : (ops[i]?).map (fun o => o.dst) = some d)
    (hs : Region.noSelect ops = true) (hf : Region.free md ops listed i = true) (hr : (Region.ready md ops listed).contains i = true)
    (hQ : ∀ c a w, Q (.panic c) (a.put d undef) w → Q (.panic c) a w) (hw : (ops[i]?).map (fun o => Region.wanted o (yielded ops a.tmps)) = some false) (hS : S w)
    (h : wpAnyH P md ops Q S fuel (listed.setIfInBounds i true) (a.put d undef) w) : wpAnyH P md ops Q S (fuel + 1) listed a w := by
  cases ho : ops[i]? with
  | none => rw [ho] at hi; cases hi
  | some o =>
    rw [ho, Option.map_some] at hi hw
    obtain rfl := Option.some.inj hi
    exact wpAnyH_take ho hs hf hr hQ (Or.inr ⟨Option.some.inj hw, rfl⟩) hS h
/-- The condition may be made stronger from here on. -/
theorem wpAnyH_up {S' : World → Prop} (hs : ∀ w, S' w → S w) : ∀ {fuel : Nat} {listed : Array Bool} {a : Act} {w : World}, wpAnyH P md ops Q S' fuel listed a w → wpAnyH P md ops Q S fuel listed a w
  | 0, _, _, _, h => h
  | _ + 1, _, _, _, h => ⟨h.1, fun i hi => wpOp_mono (fun _ _ h' => ⟨hs _ h'.1, wpAnyH_up hs h'.2⟩) (h.2 i hi)⟩
end
end Go.Proofs.Ytmihgdjnjfjjcaa
