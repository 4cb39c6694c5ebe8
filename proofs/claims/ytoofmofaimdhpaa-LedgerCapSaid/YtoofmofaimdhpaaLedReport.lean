import Derived.Test.YtoofmofaimdhpaaPackA5
import Derived.Test.YtoofmofaimdhpaaLedRepLess
import Derived.Test.YtoofmofaimdhpaaLedRepMore
import Derived.Test.YtoofmofaimdhpaaLedRepSpend
import Derived.Test.YtoofmofaimdhpaaLedRepKeep
import Derived.Test.YtoofmofaimdhpaaLedRepGone
import Derived.Test.YtoofmofaimdhpaaLedRepBack
import Derived.Test.YtoofmofaimdhpaaPackA3
set_option linter.unusedVariables false
set_option linter.unusedSimpArgs false
/- Report: what any state answers. -/
namespace Go.Proofs.Ytoofmofaimdhpaa
open Go.ChangeShapes Go.WideShapes Go.ChangeAt Go.RowKit
set_option maxRecDepth 100000

theorem report_new (s : St) (r : Raw) (B : Nat) (sh ep le sp : Int) (cl : Bool) (w : World) (h : StAt w B r s) (hl1 : s.tens.length ≤ 800) (hl2 : s.leas.length ≤ 900) (hl3 : s.sess.length ≤ 900) (hl4 : s.dsks.length ≤ 900) (hok : stOk s = true) :
    Calls Try.prog 22 #[r.agg, .int .i64 sh, .int .i64 ep, .int .i64 le, .int .i64 sp, .bool cl] w (RetSEN w (reportS s sh ep le sp cl)) := by
  have hno : ¬ (stOk s = false) := by rw [hok]; simp
  obtain ⟨h1, h2, h3, h4⟩ := stOk_parts hok
  have hfit := leasOk_fits h1 h2
  have hris := leasOk_rising h2
  rcases idxL_find (leaIs sh ep le) s.leas with ⟨hix, hf⟩ | ⟨k, hk, hix, hf⟩
  · rw [show reportS s sh ep le sp cl = (sweptS s, 180) by unfold reportS; rw [if_neg hno, hf]]
    exact report_none s r B sh ep le sp cl w h hl1 hl2 hl3 hl4 hok hix
  · have hle : s.leas[k].id = le := by
      have := List.find?_some hf
      unfold leaIs at this
      exact (of_decide_eq_true this).1
    have hfx := hfit _ (List.getElem_mem hk)
    have hres : reportS s sh ep le sp cl = (if sp < s.leas[k].spent ∨ s.leas[k].size < sp then (sweptS s, 2)
        else if cl = false ∧ sp < s.leas[k].size then (sweptS { s with leas := spendL le sp s.leas }, 0)
        else (sweptS { s with leas := dropL le s.leas, tens := if cl = true ∧ (findT s.tens s.leas[k].tenant).1.gone = false then (setS s.tens (backT s s.leas[k] sp)).1 else s.tens }, 0)) := by
      unfold reportS; rw [if_neg hno, hf]
    have hdrop : dropL le s.leas = s.leas.eraseIdx k := by rw [← hle]; exact dropL_at hris hk
    have hspend : spendL le sp s.leas = s.leas.set k { s.leas[k] with spent := sp } := by rw [← hle]; exact spendL_at hris hk
    have hdx : dropL s.leas[k].id s.leas = s.leas.eraseIdx k := dropL_at hris hk
    rw [hres, hdrop, hspend]
    unfold backT
    rw [hdx]
    clear hres hdrop hspend hdx hf
    have hx : ∃ hk : k < s.leas.length, s.leas[k] = s.leas[k] := ⟨hk, rfl⟩
    generalize hxe : s.leas[k] = x at hx hfx hle ⊢
    have hfit2 : sp < x.size → x.spent ≤ sp → Fits (s.leas.set k { x with spent := sp }) := fun e1 e2 y hy => by
      rcases List.mem_or_eq_of_mem_set hy with hy | rfl
      · exact hfit y hy
      · simp only; omega
    obtain ⟨i0, i1, i2, i3, i4, i5, i6⟩ := x
    simp only at hfx hle hfit2 ⊢
    have hx' : ∃ hk : k < s.leas.length, s.leas[k] = ⟨i0, i1, i2, i3, i4, i5, i6⟩ := ⟨hk, hxe⟩
    by_cases c1 : sp < i6
    · rw [if_pos (.inl c1)]
      exact report_less s r B sh ep le sp cl w h hl1 hl2 hl3 hl4 i0 i1 i2 i3 i4 i5 i6 k hok hix hx' (by omega) (by omega) (by omega) c1
    · by_cases c2 : i5 < sp
      · rw [if_pos (.inr c2)]
        exact report_more s r B sh ep le sp cl w h hl1 hl2 hl3 hl4 i0 i1 i2 i3 i4 i5 i6 k hok hix hx' (by omega) (by omega) (by omega) (by omega) c2
      · rw [if_neg (by omega)]
        have hfd : findT s.tens i1 = ((findT s.tens i1).1, (findT s.tens i1).2) := rfl
        generalize (findT s.tens i1).1 = t at hfd ⊢
        generalize (findT s.tens i1).2 = ok at hfd
        obtain ⟨fid, frate, fburst, fbucket, fgone⟩ := t
        cases cl with
        | false =>
          by_cases c3 : sp < i5
          · rw [if_pos ⟨rfl, c3⟩]
            exact report_spend s r B sh ep le sp false w h hl1 hl2 hl3 hl4 i0 i1 i2 i3 i4 i5 i6 k hok hix hx' (by omega) (by omega) (by omega) rfl (by omega) c3 (hfit2 c3 (by omega))
          · rw [if_neg (by omega), if_neg (by simp)]
            exact report_keep s r B sh ep le sp false w h hl1 hl2 hl3 hl4 i0 i1 i2 i3 i4 i5 i6 k hok hix hx' (by omega) (by omega) (by omega) fid frate fburst fbucket fgone ok hfd rfl (by omega) (by omega)
        | true =>
          rw [if_neg (by simp)]
          cases fgone with
          | true =>
            rw [if_neg (by simp)]
            exact report_gone s r B sh ep le sp true w h hl1 hl2 hl3 hl4 i0 i1 i2 i3 i4 i5 i6 k hok hix hx' (by omega) (by omega) (by omega) fid frate fburst fbucket true ok hfd rfl (by omega) (by omega) rfl
          | false =>
            rw [if_pos (by simp)]
            exact report_back s r B sh ep le sp true w h hl1 hl2 hl3 hl4 i0 i1 i2 i3 i4 i5 i6 k hok hix hx' (by omega) (by omega) (by omega) fid frate fburst fbucket ok hfd rfl (by omega) (by omega)
theorem report_st (s : St) (r : Raw) (B : Nat) (sh ep le sp : Int) (cl : Bool) (w : World) (h : StAt w B r s) (hl1 : s.tens.length ≤ 800) (hl2 : s.leas.length ≤ 900) (hl3 : s.sess.length ≤ 900) (hl4 : s.dsks.length ≤ 900) :
    Calls Try.prog 22 #[r.agg, .int .i64 sh, .int .i64 ep, .int .i64 le, .int .i64 sp, .bool cl] w (RetSE w (reportS s sh ep le sp cl)) := by
  cases hok : stOk s with
  | false =>
    rw [show reportS s sh ep le sp cl = (s, 2) by unfold reportS; rw [if_pos hok]]
    exact report_no s r B sh ep le sp cl w h hl1 hl2 hl3 hl4 hok
  | true => exact (report_new s r B sh ep le sp cl w h hl1 hl2 hl3 hl4 hok).mono fun _ _ h => h.se
end Go.Proofs.Ytoofmofaimdhpaa
