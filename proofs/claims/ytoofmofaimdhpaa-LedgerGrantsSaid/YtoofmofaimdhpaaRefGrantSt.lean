import Derived.Test.YtoofmofaimdhpaaRefGrantOk
import Derived.Test.YtoofmofaimdhpaaPackA3
set_option linter.unusedVariables false
set_option linter.unusedSimpArgs false
/- weirref18.Grant: what any state answers. -/
namespace Go.Proofs.Ytoofmofaimdhpaa
open Go.ChangeShapes Go.WideShapes Go.ChangeAt Go.RowKit
set_option maxRecDepth 100000

theorem refgrant_st (s : St) (r : Raw) (B : Nat) (sh ep nu te sz : Int) (w : World) (h : StAt w B r s) (hl1' : s.tens.length ≤ 800) (hl2 : s.leas.length ≤ 900) (hl3 : s.sess.length ≤ 900) (hl4 : s.dsks.length ≤ 900) :
    Calls Try.prog 12 #[r.agg, .int .i64 sh, .int .i64 ep, .int .i64 nu, .int .i64 te, .int .i64 sz] w (RetSA w (grantS s sh ep nu te sz)) := by
  cases hok : stOk s with
  | false =>
    rw [show grantS s sh ep nu te sz = (s, Ans.err 2) by unfold grantS; rw [if_pos hok]]
    exact refgrant_bad s r B sh ep nu te sz w h hl1' hl2 hl3 hl4 hok
  | true =>
    have hno : ¬(stOk s = false) := by rw [hok]; simp
    by_cases hb : argsBad sh ep nu sz
    · rw [show grantS s sh ep nu te sz = (sweptS s, Ans.err 2) by unfold grantS; rw [if_neg hno, if_pos hb]]
      unfold argsBad at hb
      by_cases a1 : sh < 1
      · exact refgrant_arg0 s r B sh ep nu te sz w h hl1' hl2 hl3 hl4 hok a1
      by_cases a2 : 8 < sh
      · exact refgrant_arg1 s r B sh ep nu te sz w h hl1' hl2 hl3 hl4 hok (by omega) a2
      by_cases a3 : ep < 1
      · exact refgrant_arg2 s r B sh ep nu te sz w h hl1' hl2 hl3 hl4 hok (by omega) (by omega) a3
      by_cases a4 : nu < 1
      · exact refgrant_arg3 s r B sh ep nu te sz w h hl1' hl2 hl3 hl4 hok (by omega) (by omega) (by omega) a4
      by_cases a5 : sz < 1
      · exact refgrant_arg4 s r B sh ep nu te sz w h hl1' hl2 hl3 hl4 hok (by omega) (by omega) (by omega) (by omega) a5
      exact refgrant_arg5 s r B sh ep nu te sz w h hl1' hl2 hl3 hl4 hok (by omega) (by omega) (by omega) (by omega) (by omega) (by omega)
    · have hres : grantS s sh ep nu te sz = if (findT s.tens te).2 = false ∨ (findT s.tens te).1.gone = true then (sweptS s, Ans.err 161)
          else if 64 ≤ s.leas.length ∨ 1099511627776 ≤ s.next then (sweptS s, Ans.err 100)
          else if (takeI (findT s.tens te).1.bucket sz).2 ≠ 0 then (sweptS s, Ans.err (takeI (findT s.tens te).1.bucket sz).2)
          else (sweptS (grownS s { (findT s.tens te).1 with bucket := (takeI (findT s.tens te).1.bucket sz).1 } ⟨s.next, te, sh, ep, nu, sz, 0⟩), ⟨0, (findT s.tens te).1.rate, (findT s.tens te).1.burst, s.next, sz⟩) := by
        unfold grantS; rw [if_neg hno, if_neg hb]; rfl
      unfold argsBad at hb
      have g1 : 1 ≤ sh := by omega
      have g2 : sh ≤ 8 := by omega
      have g3 : 1 ≤ ep := by omega
      have g4 : 1 ≤ nu := by omega
      have g5 : 1 ≤ sz := by omega
      have g6 : sz ≤ 1000000 := by omega
      rw [hres]
      clear hres hb
      obtain ⟨h1, h2, h3, h4⟩ := stOk_parts hok
      have hne : (findT s.tens te).2 = true → s.tens ≠ [] := fun hf hn => by
        rw [hn] at hf; simp [findT] at hf
      have hrg := fun hf => findT_range (id := te) h1 hf
      rcases hfd : findT s.tens te with ⟨⟨fid, frate, fburst, fbucket, fgone⟩, ok⟩
      rw [hfd] at hne hrg
      simp only at hne hrg ⊢
      cases ok with
      | false =>
        rw [if_pos (.inl rfl)]
        exact refgrant_none s r B sh ep nu te sz w h hl1' hl2 hl3 hl4 hok fgone fid frate fburst fbucket hfd g1 g2 g3 g4 g5 g6
      | true =>
        cases fgone with
        | true =>
          rw [if_pos (.inr rfl)]
          exact refgrant_gone s r B sh ep nu te sz w h hl1' hl2 hl3 hl4 hok fid frate fburst fbucket hfd g1 g2 g3 g4 g5 g6
        | false =>
          rw [if_neg (by simp)]
          by_cases g7 : 64 ≤ s.leas.length
          · rw [if_pos (.inl g7)]
            exact refgrant_full s r B sh ep nu te sz w h hl1' hl2 hl3 hl4 hok fid frate fburst fbucket hfd g1 g2 g3 g4 g5 g6 g7
          by_cases g8 : 1099511627776 ≤ s.next
          · rw [if_pos (.inr g8)]
            exact refgrant_far s r B sh ep nu te sz w h hl1' hl2 hl3 hl4 hok fid frate fburst fbucket hfd g1 g2 g3 g4 g5 g6 (by omega) g8
          rw [if_neg (by omega)]
          rcases takeI_ways fbucket sz with ht | ht
          · rw [ht, if_pos (by decide)]
            exact refgrant_few s r B sh ep nu te sz w h hl1' hl2 hl3 hl4 hok fid frate fburst fbucket hfd g1 g2 g3 g4 g5 g6 (by omega) (by omega) ht
          · rw [ht, if_neg (by simp)]
            have hfit : Fits (s.leas ++ [⟨s.next, te, sh, ep, nu, sz, 0⟩]) := by
              have hrr := hrg rfl
              intro x hx
              rcases List.mem_append.1 hx with hx | hx
              · exact leasOk_fits h1 h2 x hx
              · rw [List.mem_singleton.1 hx]; simp only; omega
            exact refgrant_good s r B sh ep nu te sz w h hl1' hl2 hl3 hl4 hok fid frate fburst fbucket hfd g1 g2 g3 g4 g5 g6 (by omega) (by omega) ht h3.2.1 (hne rfl) hfit
end Go.Proofs.Ytoofmofaimdhpaa
