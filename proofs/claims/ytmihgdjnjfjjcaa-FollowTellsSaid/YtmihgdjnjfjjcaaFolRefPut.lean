import Derived.Test.YtmihgdjnjfjjcaaFolPut
set_option linter.unusedVariables false
set_option linter.unusedSimpArgs false
/- A node's progress put by the document (weirref11.Put). -/
namespace Go.Proofs.Ytmihgdjnjfjjcaa
open Go.ChangeShapes Go.WideShapes Go.ChangeAt Go.RowKit
set_option maxRecDepth 100000

theorem wpList_prg1 {ops : Array Oper} {rest : List Oper} {op : Oper} {ac : Act} {w : World} {cs : Array Value} {te : TypeId} {Q : Exit → Act → World → Prop} (hgd : op.guard = none) (s x : Operand)
    (ho : op.op = .call { callee := .builtin .append, args := #[s, x], argTypes := #[25, 25] }) (B : Nat) (a : Option Addr) (n c : Nat) (xs : List Prg) (hs : ac.eval s = .slice a n c) (hown : OwnP w B a n c xs)
    (y : Prg) (hcs : cs.toList = y.cells) (H : Nat) (hH : w.heap.size = H) (hx : ac.eval x = .slice (some ⟨H, 0, none⟩) 1 1) (hby : (n + 1) * 24 ≤ 140737488355328) (hB : B ≤ w.heap.size)
    (h : ∀ a' c' w', OwnP w' B a' (n + 1) c' (xs ++ [y]) → Below B w w' → wpList Try.prog ops Q rest (ac.put op.dst (.slice a' (n + 1) c')) w') : wpList Try.prog ops Q (op :: rest) ac (w.alloc (.cells cs te)) := by
  subst hH
  exact wpList_app1 layPrg Try.underlying25 hgd s x ho B a n c xs hs hown y hcs hx hby hB h
theorem put_hit {l : List Prg} {p : Prg} {k : Nat} {ol : List Prg} (hk : k < l.length) (h : putF l p = ol ++ putF (l.drop k) p) (e : l[k].node = p.node) : putF l p = (ol ++ [p]) ++ l.drop (k + 1) := by
  rw [h, List.drop_eq_getElem_cons hk]
  show ol ++ (if l[k].node = p.node then _ else _) = _
  rw [if_pos e, List.append_assoc]; rfl
theorem put_miss {l : List Prg} {p : Prg} {k : Nat} {ol : List Prg} (hk : k < l.length) (h : putF l p = ol ++ putF (l.drop k) p) (e : ¬ l[k].node = p.node) : putF l p = (ol ++ [l[k]]) ++ putF (l.drop (k + 1)) p := by
  rw [h, List.drop_eq_getElem_cons hk]
  show ol ++ (if l[k].node = p.node then _ else _) = _
  rw [if_neg e, List.append_assoc]; rfl
theorem put_more {l : List Prg} {p : Prg} {k : Nat} {ol : List Prg} (hk : k < l.length) (h : putF l p = ol ++ l.drop k) : putF l p = (ol ++ [l[k]]) ++ l.drop (k + 1) := by
  rw [h, List.drop_eq_getElem_cons hk, List.append_assoc]; rfl
def PutR (l : List Prg) (p : Prg) (k : Nat) (done : Bool) (ol : List Prg) : Prop := if done then putF l p = ol ++ l.drop k else putF l p = ol ++ putF (l.drop k) p
set_option maxHeartbeats 8000000 in
theorem refput_any (l : List Prg) (p : Prg) (a : Option Addr) (n c : Nat) (w : World) (hn : l.length = n) (hl : n ≤ 1000000) (hr : LRow layPrg w a l) :
    Calls Try.prog 23 #[.slice a n c, p.agg] w (RetRowP w (putF l p)) := by
  have HHIT := Lib.hid (fun k ol (hk : k < l.length) h e => put_hit (p := p) (k := k) (ol := ol) hk h e)
  have HMIS := Lib.hid (fun k ol (hk : k < l.length) h e => put_miss (p := p) (k := k) (ol := ol) hk h e)
  have HMOR := Lib.hid (fun k ol (hk : k < l.length) h => put_more (p := p) (k := k) (ol := ol) hk h)
  have HNIL : Hid (putF l p = [] ++ putF (l.drop 0) p) := rfl
  have HE1 : Hid (∀ q ol, n ≤ q → putF l p = ol ++ l.drop q → putF l p = ol) := fun q ol hq h => by rw [h, List.drop_of_length_le (by omega), List.append_nil]
  have HE2 : Hid (∀ q ol, n ≤ q → putF l p = ol ++ putF (l.drop q) p → putF l p = ol ++ [p]) := fun q ol hq h => by rw [h, List.drop_of_length_le (by omega)]; rfl
  obtain ⟨p0, p1, p2⟩ := p
  have HB0 : Hid (Below w.heap.size w (w.alloc (.cells #[.int .i64 p0, .int .i64 p1, .int .i64 p2] 39))) := mid_alloc' (Below.refl _ _)
  have HX0 : Hid (Box (w.alloc (.cells #[.int .i64 p0, .int .i64 p1, .int .i64 p2] 39)) w.heap.size [.int .i64 p0, .int .i64 p1, .int .i64 p2]) := Box.of_alloc (w := w) (cs := [.int .i64 p0, .int .i64 p1, .int .i64 p2]) (t := 39) (Below.refl _ _)
  have HR := Lib.hid (fun k (hk : k < l.length) => atPrg hr hk)
  obtain ⟨r, hrr⟩ : ∃ r, putF l ⟨p0, p1, p2⟩ = r := ⟨_, rfl⟩
  rw [hrr] at HHIT HMIS HMOR HNIL HE1 HE2 ⊢
  have HN := Lib.hid hn
  clear hrr hr hn
  go_enter Try.func23, Try.ntmps23
  go_wp2_with fail
  go_loopw [5, 6, 7] (fun ov dv iv wr => ∃ (k : Nat) (done : Bool) (ol : List Prg) (a1 : Option Addr) (c1 : Nat), k ≤ n ∧ iv = .int .i64 k ∧ dv = .bool done ∧ ov = .slice a1 ol.length c1 ∧ ol.length ≤ k ∧ Hid (done = true → r = ol ++ l.drop k) ∧ Hid (done = false → r = ol ++ putF (l.drop k) ⟨p0, p1, p2⟩) ∧ Hid (OwnP wr (w.heap.size + 1) a1 ol.length c1 ol) ∧ Hid (Below w.heap.size w wr) ∧ Hid (Box wr w.heap.size [.int .i64 p0, .int .i64 p1, .int .i64 p2])) (fun _ _ iv _ => n - (intOf iv).toNat)
  case atStart => exact ⟨0, false, [], none, 0, Nat.zero_le _, rfl, rfl, rfl, by simp, (fun h => by cases h), (fun _ => HNIL.out), World.ownsRow_nil _ _ _ _, HB0.out, HX0.out⟩
  case round =>
    clear HB0 HX0 HNIL
    obtain ⟨k, done, ol, a1, c1, hk, rfl, rfl, rfl, hol, HT, HF, HOW, HBL, HBX⟩ := hrel
    have k0 := HBX.out.cell (j := 0) rfl
    have k1 := HBX.out.cell (j := 1) rfl
    have k2 := HBX.out.cell (j := 2) rfl
    have hgw := HBX.out.lt (by simp)
    by_cases hlt : k < n
    · have hke : k < l.length := by rw [HN.out]; exact hlt
      have hd : decide (k < n) = true := decide_eq_true hlt
      obtain ⟨bb, oo, ha, hcs⟩ := HR.out k hke
      subst ha
      have ⟨j0, j1, j2⟩ := hcs _ HBL.out
      have HH := Lib.hid (HHIT.out k ol hke)
      have HM := Lib.hid (HMIS.out k ol hke)
      have HO := Lib.hid (HMOR.out k ol hke)
      have i1 : (0 : Int) ≤ (k : Int) := by omega
      have i2 : (k : Int) < (n : Int) := by omega
      clear hcs HR HHIT HMIS HMOR HE1 HE2
      generalize l[k] = x at j0 j1 j2 HH HM HO
      clear hke
      obtain ⟨x0, x1, x2⟩ := x
      simp only at j0 j1 j2 HH HM HO
      cases done
      · have hF := HF.out rfl
        rcases he : (x0 == p0) with _ | _
        · have h3 := HM.out hF (by simpa using he)
          have H3 := Lib.hid h3
          clear h3 hF
          go_wp2_with (at_builtin; refine wpList_prg1 rfl (.tmp 29) (.tmp 31) rfl (w.heap.size + 1) a1 ol.length c1 ol rfl (HOW.out.next ((Below.refl _ _).alloc (Nat.le_refl _) _)) ⟨x0, x1, x2⟩ rfl (wr.heap.size + 1) (by simp) rfl (by omega) (by simp; omega) ?_; intro a4 c4 w4 how4 hb4; have HOW4 := Lib.hid how4; have hba := (Below.refl (w.heap.size + 1) wr).alloc hgw (.cells #[.int .i64 x0, .int .i64 x1, .int .i64 x2] 39); have HB4 := Lib.hid (HBL.out.trans ((hba.trans hb4).mono (Nat.le_succ _))); have HX4 := Lib.hid (HBX.out.below (hba.trans hb4) (Nat.lt_succ_self _)); clear how4 hb4 hba)
          go_roundw
          case rel => exact ⟨k + 1, false, ol ++ [⟨x0, x1, x2⟩], a4, c4, by omega, by go_num, rfl, by simp, by simp; omega, (fun h => by cases h), (fun _ => H3.out), (by (show OwnP _ _ _ _ _ _); rw [List.length_append]; exact HOW4.out), HB4.out, HX4.out⟩
          case measure => simp [intOf]; omega
        · have h3 := HH.out hF (by simpa using he)
          have H3 := Lib.hid h3
          clear h3 hF
          go_wp2_with (at_builtin; refine wpList_prg1 rfl (.tmp 29) (.tmp 31) rfl (w.heap.size + 1) a1 ol.length c1 ol rfl (HOW.out.next ((Below.refl _ _).alloc (Nat.le_refl _) _)) ⟨p0, p1, p2⟩ rfl (wr.heap.size + 1) (by simp) rfl (by omega) (by simp; omega) ?_; intro a4 c4 w4 how4 hb4; have HOW4 := Lib.hid how4; have hba := (Below.refl (w.heap.size + 1) wr).alloc hgw (.cells #[.int .i64 p0, .int .i64 p1, .int .i64 p2] 39); have HB4 := Lib.hid (HBL.out.trans ((hba.trans hb4).mono (Nat.le_succ _))); have HX4 := Lib.hid (HBX.out.below (hba.trans hb4) (Nat.lt_succ_self _)); clear how4 hb4 hba)
          go_roundw
          case rel => exact ⟨k + 1, true, ol ++ [⟨p0, p1, p2⟩], a4, c4, by omega, by go_num, rfl, by simp, by simp; omega, (fun _ => H3.out), (fun h => by cases h), (by (show OwnP _ _ _ _ _ _); rw [List.length_append]; exact HOW4.out), HB4.out, HX4.out⟩
          case measure => simp [intOf]; omega
      · have h3 := HO.out (HT.out rfl)
        have H3 := Lib.hid h3
        clear h3
        go_wp2_with (at_builtin; refine wpList_prg1 rfl (.tmp 29) (.tmp 31) rfl (w.heap.size + 1) a1 ol.length c1 ol rfl (HOW.out.next ((Below.refl _ _).alloc (Nat.le_refl _) _)) ⟨x0, x1, x2⟩ rfl (wr.heap.size + 1) (by simp) rfl (by omega) (by simp; omega) ?_; intro a4 c4 w4 how4 hb4; have HOW4 := Lib.hid how4; have hba := (Below.refl (w.heap.size + 1) wr).alloc hgw (.cells #[.int .i64 x0, .int .i64 x1, .int .i64 x2] 39); have HB4 := Lib.hid (HBL.out.trans ((hba.trans hb4).mono (Nat.le_succ _))); have HX4 := Lib.hid (HBX.out.below (hba.trans hb4) (Nat.lt_succ_self _)); clear how4 hb4 hba)
        go_roundw
        case rel => exact ⟨k + 1, true, ol ++ [⟨x0, x1, x2⟩], a4, c4, by omega, by go_num, rfl, by simp, by simp; omega, (fun _ => H3.out), (fun h => by cases h), (by (show OwnP _ _ _ _ _ _); rw [List.length_append]; exact HOW4.out), HB4.out, HX4.out⟩
        case measure => simp [intOf]; omega
    · have hd : decide (k < n) = false := decide_eq_false hlt
      cases done
      · have er := HE2.out k ol (by omega) (HF.out rfl)
        clear HT HF HHIT HMIS HMOR HE1 HE2 HR
        subst er
        go_wp2_with (at_builtin; refine wpList_prg1 rfl (.tmp 35) (.tmp 37) rfl (w.heap.size + 1) a1 ol.length c1 ol rfl HOW.out ⟨p0, p1, p2⟩ rfl wr.heap.size rfl rfl (by omega) hgw ?_; intro a4 c4 w4 how4 hb4; have HOW4 := Lib.hid how4; have HB4 := Lib.hid (HBL.out.trans (hb4.mono (Nat.le_succ _))); clear how4 hb4)
        go_ret
        exact ⟨a4, c4, by rw [List.length_append]; rfl, own_row HOW4.out, HB4.out, by rw [List.length_append]; exact HOW4.out.cap⟩
      · have er := HE1.out k ol (by omega) (HT.out rfl)
        clear HT HF HHIT HMIS HMOR HE1 HE2 HR
        subst er
        go_wp2_with fail
        go_ret
        exact ⟨a1, c1, rfl, own_row HOW.out, HBL.out, HOW.out.cap⟩
end Go.Proofs.Ytmihgdjnjfjjcaa
