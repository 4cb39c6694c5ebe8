import Derived.Test.YtoofmofaimdhpaaPackA1
import Derived.Test.YtoofmofaimdhpaaPackA3
set_option linter.unusedVariables false
set_option linter.unusedSimpArgs false
/- slices.DeleteFunc, on a row of the call's own: what is not so is left. -/
namespace Go.Proofs.Ytoofmofaimdhpaa
open Go.ChangeShapes Go.WideShapes Go.ChangeAt Go.RowKit
set_option maxRecDepth 100000

def RetDelOLea (g : Nat) (w : World) (a : Option Addr) (c : Nat) (xs : List Lease) (e : Ending) (w' : World) : Prop :=
  e = .returned (.slice a xs.length c) ∧ LRow layLea w' a xs ∧ Only g w w'

set_option maxHeartbeats 2000000 in
theorem deleteOnlyLea (xs : List Lease) (B g n c : Nat) (fid : FuncId) (cap : Array Value) (p : Lease → Bool) (w : World) (hn : xs.length = n) (hnc : n ≤ c) (hl : c ≤ maxLen) (hm : Mine layLea w B g 0 xs) (hB : B ≤ w.heap.size)
    (hcf : ∀ (args : Array Value) (w : World), (callFunc fid args).run Try.prog w = .ok (.enter fid args) w)
    (hf : ∀ x ∈ xs, ∀ w', Only g w w' → Calls Try.prog fid (#[(layLea).val x] ++ cap) w' fun e w'' => e = .returned (.bool (p x)) ∧ Below w'.heap.size w' w'') :
    Calls Try.prog 59 #[.slice (some ⟨g, 0, none⟩) n c, .func (.func fid) #[] cap] w (RetDelOLea g w (some ⟨g, 0, none⟩) c (xs.filter fun x => !p x)) := by
  subst hn
  have hl2 := lt_maxLen hl
  have hlm : xs.length ≤ maxLen := Nat.le_trans hnc hl
  have HF := Lib.hid hf
  clear hf
  have HIX := Lib.hid (indexFuncLea xs (some ⟨g, 0, none⟩) xs.length c fid cap p w rfl hlm hm.row hcf (fun x hx w' hb => HF.out x hx w' (.of hb)))
  have HM := Lib.hid hm
  rcases idxL_ways p xs with ⟨h1, h2⟩ | ⟨k, hk, h1, h2, h3⟩
  · have HI := Lib.hid h1
    have HO : Hid ((xs.filter fun x => !p x) = xs) := List.filter_eq_self.2 fun x hx => by rw [h2 x hx]; rfl
    clear h1 h2 hm
    generalize (xs.filter fun x => !p x) = res at HO ⊢
    go_enter Try.func59, Try.ntmps59
    go_wp2_with (go_at_call 73; ((with_reducible refine HIX.out.mono ?_); rw [HI.out]; rintro e w2 ⟨rfl, hb⟩))
    go_returns
    obtain rfl := HO.out
    exact ⟨rfl, Row.below HM.out.row hb, .of hb⟩
  · have HI := Lib.hid h1
    have HS := Lib.hid (df_start (q := fun x => !p x) hk (by simp [h2]) (fun j h hj => by simp [h3 j h hj]))
    have HFL : Hid (∀ (us : List Lease) (i : Nat), i ≤ us.length → us.take i = xs.filter (fun x => !p x) → (xs.filter fun x => !p x).length = i) := fun us i hi h => by rw [← h, List.length_take]; omega
    have HFE : Hid (∀ (us : List Lease) (i : Nat), us.take i = (xs.take xs.length).filter (fun x => !p x) → us.take i = xs.filter (fun x => !p x)) := fun us i h => by rw [h, List.take_length]
    clear h1 h2 h3 hm
    have hz := HM.out.lt (by intro h; rw [h] at hk; simp at hk)
    generalize hres : (xs.filter fun x => !p x) = res at HFL HFE ⊢
    have HRES := Lib.hid hres
    clear hres
    have hk1 : ((k : Int) == -1) = false := by rw [beq_eq_false_iff_ne]; omega
    go_enter Try.func59, Try.ntmps59
    go_wp2_with (go_at_call 73; ((with_reducible refine HIX.out.mono ?_); rw [HI.out]; rintro e w2 ⟨rfl, hb⟩))
    go_loopw [5, 6] (fun si sj wr => ∃ i j : Nat, ∃ us : List Lease, si = .int .i64 i ∧ sj = .int .i64 j ∧ i < j ∧ j ≤ xs.length ∧ Hid (us.length = xs.length) ∧ Hid (us.take i = (xs.take j).filter (fun x => !p x)) ∧ Hid (us.drop j = xs.drop j) ∧ Hid (Mine layLea wr B g 0 us) ∧ Only g w wr) (fun _ sj _ => xs.length - (intOf sj).toNat)
    case atStart => exact ⟨k, k + 1, xs, rfl, by go_num, by omega, by omega, rfl, HS.out, rfl, HM.out.below hb hz, .of hb⟩
    case round =>
      obtain ⟨i, j, us, rfl, rfl, hij, hj, HL, HT, HD, HMR, hbr⟩ := hrel
      by_cases hlt : j < xs.length
      · have hju : j < us.length := by rw [HL.out]; exact hlt
        have hiu : i < us.length := by rw [HL.out]; omega
        have hr0 := HMR.out.range hju
        have HA := Lib.hid (df_at hlt HL.out HD.out)
        have hgr := HMR.out.lt (by intro h; rw [h] at hju; simp at hju)
        have hBr : B ≤ wr.heap.size := Nat.le_trans HMR.out.base (by omega)
        rw [HA.out, Nat.zero_add] at hr0
        have hrange := Lib.hid hr0
        clear hr0
        have HF1 := fun (w' : World) (hb : Only g w w') => HF.out xs[j] (List.getElem_mem hlt) w' hb
        have HF2 := Lib.hid HF1
        clear HF1
        cases hp : p xs[j] with
        | true =>
          go_wp2_with (first
            | (refine wpList_load_lay layLea rfl _ rfl g (j * (layLea).size) rfl _ hrange.out ?_)
            | (refine wpList_store_box layLea rfl _ _ rfl xs[j] rfl rfl rfl ?_; intro w3 hw3 _ hb3 hs3; have Hw3 := Lib.hid hw3; clear hw3)
            | (refine wpList_load_lay layLea rfl _ rfl wr.heap.size 0 rfl _ Hw3.out ?_)
            | (refine (HF2.out _ (hbr.next hb3)).mono ?_; rw [hp]; rintro e w4 ⟨rfl, hb4⟩))
          go_roundw
          case rel => exact ⟨i, j + 1, us, rfl, by go_num, by omega, by omega, HL.out, (df_drop hlt HT.out HD.out (by simp [hp])).1, (df_drop hlt HT.out HD.out (by simp [hp])).2, (HMR.out.below hb3 hgr).below hb4 (by omega), (hbr.next hb3).next hb4⟩
          case measure => simp [intOf]; omega
        | false =>
          have HK := Lib.hid (df_keep hlt HL.out hij HT.out HD.out (by simp [hp]))
          go_wp2_with (first
            | (refine wpList_load_lay layLea rfl _ rfl g (j * (layLea).size) rfl _ hrange.out ?_)
            | (refine wpList_store_box layLea rfl _ _ rfl xs[j] rfl rfl rfl ?_; intro w3 hw3 _ hb3 hs3; have Hw3 := Lib.hid hw3; clear hw3)
            | (refine wpList_load_lay layLea rfl _ rfl wr.heap.size 0 rfl _ Hw3.out ?_)
            | (refine (HF2.out _ (hbr.next hb3)).mono ?_; rw [hp]; rintro e w4 ⟨rfl, hb4⟩; have Hw3 := Lib.hid (rangeAt_below Hw3.out hb4 (by omega)))
            | (refine wpList_store_mineO layLea rfl _ _ rfl (o := 0) ((HMR.out.below hb3 hgr).below hb4 (by omega)) i hiu xs[j] (by rw [Nat.zero_add]; rfl) rfl ?_; intro w5 hm5 hb5 hs5; have HM5 := Lib.hid hm5; have HB5 := Lib.hid hb5; clear hm5 hb5))
          go_roundw
          case rel => exact ⟨i + 1, j + 1, us.set i xs[j], by go_num, by go_num, by omega, by omega, by show _ = _; rw [List.length_set]; exact HL.out, HK.out.1, HK.out.2, HM5.out, ((hbr.next hb3).next hb4).trans HB5.out⟩
          case measure => simp [intOf]; omega
      · obtain rfl : j = xs.length := by omega
        have HR := Lib.hid (HFE.out us i HT.out)
        have HN := Lib.hid (HFL.out us i (by rw [HL.out]; omega) HR.out)
        have hcn : ¬ c = i := by omega
        have hic : i ≤ c := by omega
        have hin : i ≤ xs.length := by omega
        go_wp2_with (refine wpList_clear_mineO layLea Try.underlying23 rfl _ rfl (o := 0) HMR.out i (by rw [HL.out]; omega) (xs.length - i) (c - i) (by rw [HL.out]; omega) (by rw [Nat.zero_add]; rfl) ?_; intro w5 hm5 hb5 hs5; have HM5 := Lib.hid hm5; have HB5 := Lib.hid hb5; clear hm5 hb5)
        go_returns
        have hm5 := HM5.out
        rw [HR.out] at hm5
        exact ⟨by rw [HN.out]; rfl, hm5.row, hbr.trans HB5.out⟩


theorem deleteOnlyNilLea (a : Option Addr) (c : Nat) (fid : FuncId) (cap : Array Value) (w : World)
    (hcf : ∀ (args : Array Value) (w : World), (callFunc fid args).run Try.prog w = .ok (.enter fid args) w) :
    Calls Try.prog 59 #[.slice a 0 c, .func (.func fid) #[] cap] w fun e w' => e = .returned (.slice a 0 c) ∧ Below w.heap.size w w' := by
  have HIX := Lib.hid (indexFuncLea [] a 0 c fid cap (fun _ => false) w rfl (Nat.zero_le _) (.inl rfl) hcf (fun x hx => absurd hx (by simp)))
  go_enter Try.func59, Try.ntmps59
  go_wp2_with (go_at_call 73; ((with_reducible refine HIX.out.mono ?_); rintro e w2 ⟨rfl, hb⟩))
  go_returns
  exact ⟨rfl, hb⟩
end Go.Proofs.Ytoofmofaimdhpaa
