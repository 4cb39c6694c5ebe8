import Derived.Test.YtkboojpkkhiceaaDoorShelf
import Derived.Test.YtkboojpkkhiceaaDoorPackHistoryDoes2
import Derived.Test.YtkboojpkkhiceaaDoorPackHistoryDoes1
import Derived.Lib.AppendIntMem
import Derived.Lib.ItoaLen
import Derived.Laws.IdiomStrings
import Derived.Laws.BytesArg
set_option linter.unusedVariables false
set_option linter.unusedSimpArgs false
/- A table as a text (history.key). -/
namespace Go.Proofs.YtkboojpkkhiceaaDoor
open Go.ChangeShapes Go.WideShapes Go.ChangeAt Go.RowKit
set_option maxRecDepth 100000

theorem ini_le {x : Int} (h : InI x) : x ≤ 9223372036854775807 := by unfold InI at h; omega
theorem ini_ge {x : Int} (h : InI x) : -9223372036854775808 ≤ x := h.1
def numB (x : Int) : List UInt8 := Lib.itoa x ++ [32]
def rowB (f : Force) : List UInt8 := numB f.tenant ++ (numB f.rate ++ numB f.burst)
def keyB (t : List Force) : List UInt8 := t.flatMap rowB
/-- The first j numbers of a row. -/
def partB (x y z : Int) : Nat → List UInt8
  | 0 => []
  | 1 => numB x
  | 2 => numB x ++ numB y
  | _ => numB x ++ (numB y ++ numB z)
theorem numB_len {x : Int} (h : InI x) : (numB x).length ≤ 22 := by
  unfold numB; rw [List.length_append]; have := Lib.itoa_length_le x h.1 (ini_le h); simp; omega
theorem partB_len {x y z : Int} (hx : InI x) (hy : InI y) (hz : InI z) (j : Nat) : (partB x y z j).length ≤ 66 := by
  have := numB_len hx; have := numB_len hy; have := numB_len hz
  unfold partB; split <;> simp <;> omega
theorem keyB_len : ∀ (t : List Force), (∀ f ∈ t, InI f.tenant ∧ InI f.rate ∧ InI f.burst) → (keyB t).length ≤ t.length * 66
  | [], _ => Nat.le_refl _
  | f :: t, h => by
    have h1 := keyB_len t (fun g hg => h g (List.mem_cons_of_mem _ hg))
    have h2 := h f (List.mem_cons_self ..)
    have h3 := partB_len h2.1 h2.2.1 h2.2.2 3
    unfold keyB at *
    rw [List.flatMap_cons, List.length_append]
    have h4 : (rowB f).length ≤ 66 := h3
    simp only [List.length_cons]; omega
theorem el_u8 : Elem Tryd.prog 80 5 1 1 where
  under := Tryd.underlying80
  info := by obtain ⟨i, hi, h0, h1, h2⟩ := info_parts (show (Tryd.prog.info? 5).map (fun i => (i.zero, i.size, i.bytes)) = some (some (.int .u8 0), 1, 1) by kernel_rfl); exact ⟨i, _, hi, h0, h1, h2, rfl⟩
  pos := by decide
  bpos := by decide
theorem conv_own {w : World} {B n : Nat} {v : Value} {l : List UInt8} (h : w.ownsRow B 5 1 v n (Lib.byteCells l)) (hn : l.length = n) : (convert 80 9 v).run Tryd.prog w = .ok (.string ⟨l.toArray⟩) w := by
  subst hn
  rcases h.2 with ⟨rfl, h0⟩ | ⟨g, cap, cur, rfl, -, -, -, -, -, -⟩
  · obtain rfl : l = [] := List.eq_nil_of_length_eq_zero h0
    exact run_convert_bytes_nil (w := w) 80 5 Tryd.underlying80 Tryd.underlying5 _ _ 9 Tryd.underlying9
  · exact run_convert_bytes_back (P := Tryd.prog) w 80 9 5 ⟨g, 0, none⟩ cap l Tryd.underlying80 Tryd.underlying5 Tryd.underlying9 (fun j hj => h.cells (g := g) rfl j _ (by simp [Lib.byteCells, hj]))
/-- What holds of the bytes that are written. -/
abbrev OwnB (B : Nat) (w : World) (v : Value) (l : List UInt8) : Prop := w.ownsRow B 5 1 v l.length (Lib.byteCells l)
theorem OwnB.app {B : Nat} {w' : World} {v : Value} {l m : List UInt8} {n : Nat} (h : w'.ownsRow B 5 1 v n (Lib.byteCells l ++ Lib.byteCells m)) (hn : n = (l ++ m).length) : OwnB B w' v (l ++ m) := by
  subst hn
  have e : Lib.byteCells (l ++ m) = Lib.byteCells l ++ Lib.byteCells m := by simp [Lib.byteCells]
  show World.ownsRow _ _ _ _ _ _ _
  rw [e]; exact h
set_option maxHeartbeats 4000000 in
theorem key_any (t : List Force) (a : Option Addr) (n c : Nat) (w : World) (hn : t.length = n) (hl : n ≤ 1000) (hr : LRow layFce w a t) (hg : ∀ f ∈ t, InI f.tenant ∧ InI f.rate ∧ InI f.burst)
    (htab : Lib.TabIs Tryd.prog w "internal/strconv.uint64pow10" .u64 Lib.pow10Tab) :
    Calls Tryd.prog 34 #[.slice a n c] w fun e w' => e = .returned (.string ⟨(keyB t).toArray⟩) ∧ Below w.heap.size w w' := by
  subst hn
  have HT := Lib.hid (Lib.tabBelow_of_tabIs htab)
  have HR := Lib.hid hr
  have HG := Lib.hid hg
  have HLK := Lib.hid (fun k => keyB_len (t.take k) (fun f hf => hg f (List.mem_of_mem_take hf)))
  have HKN := Lib.hid (fun k (h : k < t.length) => show keyB (t.take (k + 1)) = keyB (t.take k) ++ rowB t[k] by unfold keyB; rw [List.take_succ_eq_append_getElem h, List.flatMap_append]; simp only [List.flatMap_cons, List.flatMap_nil, List.append_nil])
  have HK0 : Hid (keyB (t.take 0) = []) := rfl
  have HKT : Hid (keyB (t.take t.length) = keyB t) := by show _ = _; rw [List.take_length]
  clear htab hr hg
  go_enter Tryd.func34, Tryd.ntmps34
  go_wp2
  go_loopw [3, 10] (fun v i wr => ∃ k : Nat, k ≤ t.length ∧ i = .int .i64 k ∧ Hid (OwnB w.heap.size wr v (keyB (t.take k))) ∧ Hid (Below w.heap.size w wr)) (fun _ i _ => t.length - (intOf i).toNat)
  case atStart => exact ⟨0, by omega, rfl, World.ownsRow_nil _ _ _ _, Below.refl _ _⟩
  case round =>
    obtain ⟨k, hk, rfl, HO, HB⟩ := hrel
    by_cases hlt : k < t.length
    · obtain ⟨b, o, rfl, hcs⟩ := HR.out.range hlt
      have HX := Lib.hid (hcs wr HB.out)
      have HGK := Lib.hid (HG.out _ (List.getElem_mem hlt))
      have HKN1 := Lib.hid (HKN.out k hlt)
      have HLP := Lib.hid (HLK.out k)
      have hkl : (t.take k).length = k := by rw [List.length_take]; omega
      have HLE : Hid ((keyB (t.take k)).length ≤ 66000) := by show _ ≤ _; have := HLP.out; rw [hkl] at this; omega
      clear hcs hkl HLP
      generalize t[k] = f at HX HGK HKN1
      obtain ⟨f0, x, y, z⟩ := f
      generalize keyB (t.take k) = pre at HO HKN1 HLE
      have hbs := HB.out.size
      go_wp2_with (first
        | (refine wpList_load_lay layFce rfl _ rfl b (o + k * layFce.size) rfl _ HX.out ?_)
        | (refine wpList_store_box layFce rfl (.tmp 5) (.tmp 13) rfl (⟨f0, x, y, z⟩ : Force) rfl rfl rfl ?_; intro w3 hw3 ht3 hb3 hs3; have e1 : w3.cell? ⟨wr.heap.size, 1, none⟩ = some (.int .i64 x) := (by have := hw3 1 _ rfl; rwa [Nat.zero_add] at this); have e2 : w3.cell? ⟨wr.heap.size, 2, none⟩ = some (.int .i64 y) := (by have := hw3 2 _ rfl; rwa [Nat.zero_add] at this); have e3 : w3.cell? ⟨wr.heap.size, 3, none⟩ = some (.int .i64 z) := (by have := hw3 3 _ rfl; rwa [Nat.zero_add] at this); have HB3 := Lib.hid (HB.out.trans (hb3.mono hbs)); have HO3 := Lib.hid (own_nextF HO.out hb3); clear hw3 ht3 hs3 hb3))
      clear e1 e2 e3 HO HX
      go_loopw [3, 21] (fun v j ws => ∃ m : Nat, m ≤ 3 ∧ j = .int .i64 m ∧ Hid (OwnB w.heap.size ws v (pre ++ partB x y z m)) ∧ Hid (Below w.heap.size w ws)) (fun _ j _ => 3 - (intOf j).toNat)
      case atStart => exact ⟨0, by omega, rfl, by rw [show pre ++ partB x y z 0 = pre by simp [partB]]; exact HO3.out, HB3.out⟩
      case round =>
        clear HO3 HB3
        obtain ⟨m, hm, rfl, HO, HB4⟩ := hrel
        have HTT := Lib.hid (HT.out.on HB4.out)
        have HBZ := HB4.out.size
        have HPL : Hid ((pre ++ partB x y z m).length ≤ 66066) := by show _ ≤ _; rw [List.length_append]; have := HLE.out; have := partB_len HGK.out.1 HGK.out.2.1 HGK.out.2.2 m; omega
        by_cases h0 : m = 0
        · subst h0
          have HI := Lib.hid (HGK.out.1)
          have hidx : ∀ w, (Instr.index 81 (.agg #[.int .i64 x, .int .i64 y, .int .i64 z]) (.int .i64 0)).run Tryd.prog w = .ok (.int .i64 x) w := fun _ => by kernel_rfl
          go_wp2_with (first
            | (go_at_call 41; ((with_reducible refine (strconv_AppendInt_10 w.heap.size _ x (ini_ge HI.out) (ini_le HI.out) _ _ _ HO.out HBZ (by have := HPL.out; omega) HTT.out).mono ?_); rintro e w5 ⟨v5, rfl, hown5, hb5, -⟩; have HO5 := Lib.hid (OwnB.app hown5 List.length_append.symm); have HB5 := Lib.hid (HB4.out.trans hb5); have hs5 := hb5.size; clear hown5 hb5))
            | (at_builtin; refine wpList_app el_u8 rfl (.tmp 26) (.tmp 27) rfl w.heap.size v5 _ _ rfl (HO5.out.alloc _) (some ⟨w5.heap.size, 0, none⟩) 1 1 (Lib.byteCells [32]) rfl rfl (Row.new _ _ _ _) (by intro u hu; simp [Lib.byteCells] at hu; subst hu; rfl) (by have := HPL.out; have := Lib.itoa_length_le x (ini_ge HI.out) (ini_le HI.out); rw [List.length_append]; omega) (by simp; omega) ?_; intro a6 c6 w6 ho6 hg6; have HO6 := Lib.hid (OwnB.app (m := [32]) ho6 (List.length_append (bs := [32])).symm); have HB6 := Lib.hid (Below.app (HB5.out.alloc (by omega) _) (HO5.out.alloc _) hg6 (by simp; omega)); clear ho6 hg6))
          go_roundw
          case rel => exact ⟨1, by omega, by go_num, by rw [show pre ++ partB x y z 1 = (pre ++ partB x y z 0 ++ Lib.itoa x) ++ [32] by simp [partB, numB], show pre.length + ((partB x y z 0).length + (Lib.itoa x).length) = (pre ++ partB x y z 0 ++ Lib.itoa x).length by rw [List.length_append, List.length_append, Nat.add_assoc]]; exact HO6.out, HB6.out⟩
          case measure => simp [intOf]
        by_cases h1 : m = 1
        · subst h1
          have HI := Lib.hid (HGK.out.2.1)
          have hidx : ∀ w, (Instr.index 81 (.agg #[.int .i64 x, .int .i64 y, .int .i64 z]) (.int .i64 1)).run Tryd.prog w = .ok (.int .i64 y) w := fun _ => by kernel_rfl
          go_wp2_with (first
            | (go_at_call 41; ((with_reducible refine (strconv_AppendInt_10 w.heap.size _ y (ini_ge HI.out) (ini_le HI.out) _ _ _ HO.out HBZ (by have := HPL.out; omega) HTT.out).mono ?_); rintro e w5 ⟨v5, rfl, hown5, hb5, -⟩; have HO5 := Lib.hid (OwnB.app hown5 List.length_append.symm); have HB5 := Lib.hid (HB4.out.trans hb5); have hs5 := hb5.size; clear hown5 hb5))
            | (at_builtin; refine wpList_app el_u8 rfl (.tmp 26) (.tmp 27) rfl w.heap.size v5 _ _ rfl (HO5.out.alloc _) (some ⟨w5.heap.size, 0, none⟩) 1 1 (Lib.byteCells [32]) rfl rfl (Row.new _ _ _ _) (by intro u hu; simp [Lib.byteCells] at hu; subst hu; rfl) (by have := HPL.out; have := Lib.itoa_length_le y (ini_ge HI.out) (ini_le HI.out); rw [List.length_append]; omega) (by simp; omega) ?_; intro a6 c6 w6 ho6 hg6; have HO6 := Lib.hid (OwnB.app (m := [32]) ho6 (List.length_append (bs := [32])).symm); have HB6 := Lib.hid (Below.app (HB5.out.alloc (by omega) _) (HO5.out.alloc _) hg6 (by simp; omega)); clear ho6 hg6))
          go_roundw
          case rel => exact ⟨2, by omega, by go_num, by rw [show pre ++ partB x y z 2 = (pre ++ partB x y z 1 ++ Lib.itoa y) ++ [32] by simp [partB, numB], show pre.length + ((partB x y z 1).length + (Lib.itoa y).length) = (pre ++ partB x y z 1 ++ Lib.itoa y).length by rw [List.length_append, List.length_append, Nat.add_assoc]]; exact HO6.out, HB6.out⟩
          case measure => simp [intOf]
        by_cases h2 : m = 2
        · subst h2
          have HI := Lib.hid (HGK.out.2.2)
          have hidx : ∀ w, (Instr.index 81 (.agg #[.int .i64 x, .int .i64 y, .int .i64 z]) (.int .i64 2)).run Tryd.prog w = .ok (.int .i64 z) w := fun _ => by kernel_rfl
          go_wp2_with (first
            | (go_at_call 41; ((with_reducible refine (strconv_AppendInt_10 w.heap.size _ z (ini_ge HI.out) (ini_le HI.out) _ _ _ HO.out HBZ (by have := HPL.out; omega) HTT.out).mono ?_); rintro e w5 ⟨v5, rfl, hown5, hb5, -⟩; have HO5 := Lib.hid (OwnB.app hown5 List.length_append.symm); have HB5 := Lib.hid (HB4.out.trans hb5); have hs5 := hb5.size; clear hown5 hb5))
            | (at_builtin; refine wpList_app el_u8 rfl (.tmp 26) (.tmp 27) rfl w.heap.size v5 _ _ rfl (HO5.out.alloc _) (some ⟨w5.heap.size, 0, none⟩) 1 1 (Lib.byteCells [32]) rfl rfl (Row.new _ _ _ _) (by intro u hu; simp [Lib.byteCells] at hu; subst hu; rfl) (by have := HPL.out; have := Lib.itoa_length_le z (ini_ge HI.out) (ini_le HI.out); rw [List.length_append]; omega) (by simp; omega) ?_; intro a6 c6 w6 ho6 hg6; have HO6 := Lib.hid (OwnB.app (m := [32]) ho6 (List.length_append (bs := [32])).symm); have HB6 := Lib.hid (Below.app (HB5.out.alloc (by omega) _) (HO5.out.alloc _) hg6 (by simp; omega)); clear ho6 hg6))
          go_roundw
          case rel => exact ⟨3, by omega, by go_num, by rw [show pre ++ partB x y z 3 = (pre ++ partB x y z 2 ++ Lib.itoa z) ++ [32] by simp [partB, numB], show pre.length + ((partB x y z 2).length + (Lib.itoa z).length) = (pre ++ partB x y z 2 ++ Lib.itoa z).length by rw [List.length_append, List.length_append, Nat.add_assoc]]; exact HO6.out, HB6.out⟩
          case measure => simp [intOf]
        · obtain rfl : m = 3 := by omega
          go_wp2_with fail
          go_roundw
          case rel => exact ⟨k + 1, by omega, by go_num, by rw [HKN1.out]; exact HO.out, HB4.out⟩
          case measure => simp [intOf]; omega
    · obtain rfl : k = t.length := by omega
      have h := HO.out
      rw [HKT.out] at h
      have HO2 := Lib.hid h
      clear HO h
      have hcv := conv_own HO2.out rfl
      go_wp2
      go_returns
      exact ⟨rfl, HB.out⟩
end Go.Proofs.YtkboojpkkhiceaaDoor
