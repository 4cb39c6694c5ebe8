/- slices.Clone: the same things in a row that may be written. -/
import Derived.Test.YtnebibflmlgbbaaSesLay
import Derived.WalkSpells
namespace Go.Proofs.Ytnebibflmlgbbaa
open Go.ChangeShapes Go.WideShapes Go.ChangeAt Go.RowKit

def RetOwnSes (w : World) (xs : List Session) (e : Ending) (w' : World) : Prop :=
  ∃ a c, e = .returned (.slice a xs.length c) ∧ Near w.heap.size none a ∧ Can w' w.heap.size 44 (laySes).size a xs.length c (xs.flatMap (laySes).cells) ∧
    (0 < xs.length → w'.ownsRow w.heap.size 44 (laySes).size (.slice a xs.length c) xs.length (xs.flatMap (laySes).cells)) ∧ (∀ b o s, a = some ⟨b, o, s⟩ → b < w'.heap.size) ∧ Below w.heap.size w w'

theorem cloneSes (xs : List Session) (a : Option Addr) (n c : Nat) (w : World) (hn : xs.length = n) (hby : n * (laySes).bytes ≤ 140737488355328) (hm : n ≤ maxLen) (hc : a = none → c = 0) (hnc : n ≤ c) (hr : LRow laySes w a xs) :
    Calls Try.prog 25 #[.slice a n c] w (RetOwnSes w xs) := by
  subst hn
  cases a with
  | none =>
    obtain rfl := hc rfl
    have h0 : xs.length = 0 := by omega
    obtain rfl : xs = [] := List.eq_nil_of_length_eq_zero h0
    go_enter Try.func25, Try.ntmps25
    have hnil := Lib.run_eql_slice_nil (P := Try.prog) w 22 44 none 0 0 0 0 Try.underlying22
    go_wp2
    go_returns
    exact ⟨none, 0, rfl, Near.nil _ _, Can.nil _ _ _ _, fun h => absurd h (by simp), fun _ _ _ h => (by cases h), Below.refl _ _⟩
  | some x =>
    have HR := Lib.hid hr
    clear hr
    go_enter Try.func25, Try.ntmps25
    have hnil := Lib.run_eql_slice_nil (P := Try.prog) w 22 44 (some x) xs.length c 0 0 Try.underlying22
    go_wp2_with (at_builtin; refine wpList_can ((laySes).elem Try.underlying22) rfl _ _ rfl w.heap.size _ 0 _ _ rfl (Can.empty _ _ _ _ _) _ xs.length _ (xs.flatMap (laySes).cells) rfl ((laySes).length _) (Row.alloc HR.out _) ((laySes).ones _) (by rw [Nat.zero_add]; exact hby) (by simp) ?_; intro a' c' w3 hcan3 _ hb3 hown)
    go_returns
    rw [Nat.zero_add, List.nil_append] at hcan3 hown
    have hnear : Near w.heap.size none a' := by
      by_cases h0 : 0 < xs.length
      · exact Near.own (hown.1 h0) (Nat.le_refl _)
      · rw [(hown.2 (by omega)).1]
        intro b o s hb
        simp at hb
        exact .inl (by omega)
    have hblt : ∀ b o s, a' = some ⟨b, o, s⟩ → b < w3.heap.size := fun b o s hab => by
      by_cases h0 : 0 < xs.length
      · exact ((hown.1 h0).lt b (by rw [hab]; rfl)).2
      · have h1 := hb3.size
        rw [(hown.2 (by omega)).1] at hab
        simp at hab h1
        omega
    exact ⟨a', c', rfl, hnear, hcan3, fun h => hown.1 h, hblt, ((Below.refl _ _).alloc (Nat.le_refl _) _).trans hb3⟩
end Go.Proofs.Ytnebibflmlgbbaa
