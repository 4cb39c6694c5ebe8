/- slices.Insert of one thing, into a row of the call's own, or at the end of a full one. -/
import Derived.Test.YtnebibflmlgbbaaSesLay
import Derived.Test.YtnebibflmlgbbaaLay2
import Derived.WalkSpells
namespace Go.Proofs.Ytnebibflmlgbbaa
open Go.ChangeShapes Go.WideShapes Go.ChangeAt Go.RowKit

def RetInsSes (B : Nat) (w : World) (xs : List Session) (e : Ending) (w' : World) : Prop :=
  ∃ a' c', e = .returned (.slice a' xs.length c') ∧ w'.ownsRow B 44 (laySes).size (.slice a' xs.length c') xs.length (xs.flatMap (laySes).cells) ∧ Below B w w'

set_option maxHeartbeats 4000000 in
/-- At the end. -/
theorem insertEndSes (xs : List Session) (x : Session) (n c : Nat) (a : Option Addr) (vb : Nat) (te : TypeId) (B : Nat) (w : World) (hn : xs.length = n) (hcan : Can w B 44 (laySes).size a n c (xs.flatMap (laySes).cells))
    (hv : w.heap[vb]? = some (.cells ((laySes).cells x).toArray te (0, 0))) (hby : (n + 1) * (laySes).bytes ≤ 140737488355328) (hB : B ≤ w.heap.size) :
    Calls Try.prog 26 #[.slice a n c, .int .i64 n, .slice (some ⟨vb, 0, none⟩) 1 1] w (RetInsSes B w (xs ++ [x])) := by
  have hle := hcan.le
  have hmx := hcan.2.1
  have hsm := lt_maxLen hmx
  have hbp := (laySes).bpos
  have hcc : c ≤ 9223372036854775807 := by
    rcases hcan.2.2 with ⟨h, _⟩ | h
    · omega
    · obtain ⟨_, _, hv, _, h2, _⟩ := own_slice h
      simp only [Value.slice.injEq] at hv
      have := lt_maxLen h2
      omega
  have hrv : Row w (some ⟨vb, 0, none⟩) ((laySes).cells x) := by have := Row.of_block hv; simpa using this
  have HC := Lib.hid hcan
  have HV := Lib.hid hrv
  have h1v := (laySes).one x
  have H1 := Lib.hid h1v
  have HL := Lib.hid ((laySes).len x)
  clear hcan hrv hv h1v
  go_enter Try.func26, Try.ntmps26
  go_wp2_with (at_builtin; refine wpList_can ((laySes).elem Try.underlying22) rfl (.tmp 23) (.tmp 24) rfl B a n c _ rfl HC.out (some ⟨vb, 0, none⟩) 1 1 ((laySes).cells x) rfl (by rw [HL.out, Nat.one_mul]) HV.out H1.out hby hB ?_; intro a' c' w' hcan' _ hb' hown')
  all_goals
    go_returns
    subst hn
    refine ⟨a', c', by rw [List.length_append]; rfl, ?_, hb'⟩
    have := hown'.1 (by omega)
    rw [List.length_append, List.flatMap_append, List.flatMap_cons, List.flatMap_nil, List.append_nil]
    exact this

theorem overlapsSes_no (w : World) (vb g o m vc lb cb : Nat) (tA tB : TypeId) (cA cB : Array Value) (hne : vb ≠ g) (hA : w.heap[vb]? = some (.cells cA tA (0, 0))) (hB : w.heap[g]? = some (.cells cB tB (0, 0))) (hk : cB.size ≠ 0) :
    (callFunc 27 #[.slice (some ⟨vb, 0, none⟩) m vc, .slice (some ⟨g, o, none⟩) lb cb]).run Try.prog w = .ok (.value (.bool false)) w := by
  obtain ⟨i, z, h2, _, h3, _⟩ := (laySes).parts
  have hsz : ∀ w, (sizeOf 44).run Try.prog w = .ok (laySes).size w := fun w => by simp [sizeOf, typeInfo, h2, h3]
  rw [run_callFunc_extern Try.func27 (by kernel_rfl) (by kernel_rfl) (by kernel_rfl) (e := Extern.SlicesOverlaps.overlaps #[22, 22] #[4]) (by kernel_rfl),
    Lib.run_overlaps_apart w 22 4 44 Try.underlying22 (laySes).size hsz ⟨vb, 0, none⟩ ⟨g, o, none⟩ m vc lb cb hne tA tB cA.size cB.size
      (by simp [World.shape?, hA]) (by simp [World.shape?, hB]) hk (by simp [World.frozen?, hA]) (by simp [World.frozen?, hA])]
  rfl
end Go.Proofs.Ytnebibflmlgbbaa
