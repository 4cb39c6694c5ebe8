import Derived.Test.YtkboojpkkhiceaaDoorHisEnvR
import Derived.Test.YtkboojpkkhiceaaDoorHisRefTry
set_option linter.unusedVariables false
set_option linter.unusedSimpArgs false
/- The document's search for an order. (printed by gen_hisfindr.py) -/
namespace Go.Proofs.YtkboojpkkhiceaaDoor
open Go.ChangeShapes Go.WideShapes Go.ChangeAt Go.RowKit
set_option maxRecDepth 100000

theorem all_next (l : List HCall) (d k : Nat) : (List.range (k + 1)).all (wholeB l d) = ((List.range k).all (wholeB l d) && wholeB l d k) := by rw [List.range_succ, List.all_append]; simp
theorem any_next (l : List HCall) (d p k : Nat) : (List.range (k + 1)).any (waitsB l d p) = ((List.range k).any (waitsB l d p) || waitsB l d p k) := by rw [List.range_succ, List.any_append]; simp
theorem EnvR.rd {l : List HCall} {al : Option Addr} {cl B gf : Nat} {w : World} {ds : List Ded} {ad : Option Addr} {cd : Nat} (h : EnvR l al cl B gf w ds ad cd) : LRow layDed w ad ds := own_row h.ow
/-- A table that stood away from the dead's row stands away from what the row has become. -/
theorem away_on {gf : Nat} {ad ar a : Option Addr} {t : List Force} {w w3 : World} (ha : t = [] ∨ Away gf gf ad a) (hr : LRow layFce w a t) (hn : Near w3.heap.size ad ar) (hs : w.heap.size ≤ w3.heap.size) : t = [] ∨ Away gf gf ar a := by
  by_cases h0 : t = []
  · exact .inl h0
  · rcases ha with h5 | h5
    · exact .inl h5
    · refine .inr fun b o s e => ?_
      obtain ⟨h1, h2, h3⟩ := h5 b o s e
      refine ⟨h1, h2, fun o' s' e' => ?_⟩
      have h6 := row_ltT hr h0 e
      rcases hn _ _ _ e' with h4 | ⟨o2, s2, h4⟩
      · omega
      · exact h3 _ _ h4
theorem srch_le (l : List HCall) : ∀ (f d : Nat) (t : List Force) (r : List Nat), srch l f d t = some r → r.length ≤ f
  | 0, _, _, _, h => by cases h
  | f + 1, d, t, r, h => by
    have h' : (if wholeL l d then some [] else (List.range l.length).findSome? (tryK l (srch l f) d t)) = some r := h
    split at h'
    · cases h'; simp
    · obtain ⟨k, _, hk⟩ := List.exists_of_findSome?_eq_some h'
      unfold tryK at hk
      split at hk
      · cases hk
      · split at hk
        · cases hk
        · split at hk
          · cases hk
          · rw [Option.map_eq_some_iff] at hk
            obtain ⟨r', hr', rfl⟩ := hk
            have := srch_le l f _ _ _ hr'
            simp; omega
/-- append([]int{k}, rest...). -/
theorem wpList_cat {ops : Array Oper} {rest : List Oper} {op : Oper} {ac : Act} {w : World} {te : TypeId} {Q : Exit → Act → World → Prop} (hgd : op.guard = none) (s x : Operand)
    (ho : op.op = .call { callee := .builtin .append, args := #[s, x], argTypes := #[24, 24] }) (k : Nat) (hs : ac.eval s = .slice (some ⟨w.heap.size, 0, none⟩) 1 1)
    (ar : Option Addr) (m cr : Nat) (rr : List Nat) (hm : rr.length = m) (hx : ac.eval x = .slice ar m cr) (hr : Row w ar (nums rr)) (hle : m ≤ 1000)
    (h : ∀ a' c' w', Row w' a' (nums (k :: rr)) → Below w.heap.size w w' → wpList Tryd.prog ops Q rest (ac.put op.dst (.slice a' (m + 1) c')) w') :
    wpList Tryd.prog ops Q (op :: rest) ac (w.alloc (.cells #[.int .i64 (k : Int)] te)) := by
  have el : Elem Tryd.prog 24 3 1 8 := ⟨Tryd.underlying24, by
    obtain ⟨i, hi, h0, h1, h2⟩ := info_parts (show (Tryd.prog.info? 3).map (fun i => (i.zero, i.size, i.bytes)) = some (some (.int .i64 0), 1, 8) by kernel_rfl)
    exact ⟨i, _, hi, h0, h1, h2, rfl⟩, by decide, by decide⟩
  have hcan : Can (w.alloc (.cells #[.int .i64 (k : Int)] te)) w.heap.size 3 1 (some ⟨w.heap.size, 0, none⟩) 1 1 [.int .i64 (k : Int)] := Can.full (Row.new _ _ _ _) rfl (by unfold maxLen; omega)
  obtain ⟨a', c', w', hrun, h2, h3, h4, h5⟩ := run_can el op.type w.heap.size _ 1 1 _ hcan ar m cr (nums rr) (by simp [nums, hm]) (Row.alloc hr _) (by intro u hu; unfold nums at hu; rw [List.mem_map] at hu; obtain ⟨j, _, rfl⟩ := hu; rfl) (by omega) (by simp)
  refine wpList_plain hgd fun K hK => ?_
  unfold Oper.wp execOp
  simp only [ho, resolve, invoke, builtin, Sem.run_bind, Sem.run_pure, Result.andThen_ok, List.map_toArray, List.map_cons, List.map_nil, hs, hx, hrun]
  rw [Nat.add_comm 1 m]
  exact hK _ _ (h a' c' w' h2.row (((Below.refl _ w).alloc (Nat.le_refl _) _).trans h4))
theorem room_nextR {n nr k u : Nat} (h : nr ≤ n + k * roomN u) (hk : k < 12) (hn : n + roomN (u + 1) ≤ 1000000000) : nr + roomN u ≤ 1000000000 ∧ nr + roomN u ≤ n + (k + 1) * roomN u := by
  have h1 : (k + 1) * roomN u ≤ 12 * roomN u := Nat.mul_le_mul_right _ (by omega)
  have h2 : roomN (u + 1) = 1 + 12 * roomN u := rfl
  have h3 : (k + 1) * roomN u = k * roomN u + roomN u := Nat.succ_mul _ _
  omega
set_option maxHeartbeats 16000000 in
theorem findr_whole (l : List HCall) (al : Option Addr) (cl B gf : Nat) (hl : l.length ≤ 12) (u : Nat) (d : Nat) (t : List Force) (a : Option Addr) (c : Nat) (w : World) (ds : List Ded) (ad : Option Addr) (cd : Nat) (hd : d < 65536)
    (he : EnvR l al cl B gf w ds ad cd) (hw : wholeL l d = true) :
    Calls Tryd.prog 37 #[.pointer (some ⟨gf, 0, none⟩), .int .u16 d, .slice a t.length c] w (RetFindR l al cl B gf u ds.length ad d t w) := by
  have HE := Lib.hid he
  have HSS := Lib.hid (S_whole (t := t) hl hw)
  have HW := Lib.hid hw
  have e0 := he.bx.cell (j := 0) rfl
  clear he hw
  go_enter Tryd.func37, Tryd.ntmps37
  go_wp2
  go_loopw [8, 9] (fun s8 s9 ws => ∃ i : Nat, i ≤ l.length ∧ s9 = .int .i64 i ∧ s8 = .bool ((List.range i).all (wholeB l d)) ∧ w = ws) (fun _ s9 _ => l.length - (intOf s9).toNat)
  case atStart => exact ⟨0, by omega, rfl, rfl, rfl⟩
  case round =>
    obtain ⟨i, hi, rfl, rfl, rfl⟩ := hrel
    by_cases hlt : i < l.length
    · obtain ⟨b1, o1, hb1, hcs⟩ := LRow.range HE.out.rl hlt
      subst hb1
      have e2 : w.cell? ⟨b1, o1 + i * 20 + 14, none⟩ = some (.int .i64 l[i].to) := hcs _ (Below.refl _ _) 14 _ rfl
      have HWB : Hid (wholeB l d i = (l[i].to == 0 || d.testBit i)) := by show _ = _; unfold wholeB; rw [toAt_eq hlt]
      have HNX := Lib.hid (all_next l d i)
      have hbit := and1_1 d i hd
      have hq0 : decide ((i : Int) < (l.length : Int)) = true := decide_eq_true (by omega)
      generalize l[i].to = to at e2 HWB
      generalize d.testBit i = bt at hbit HWB
      clear hcs
      cases hall : (List.range i).all (wholeB l d) with
      | false =>
        go_wp2
        go_roundw
        case rel => exact ⟨i + 1, by omega, by go_num, by rw [HNX.out, hall]; rfl, by first | rfl | trivial⟩
        case measure => simp [intOf]; omega
      | true =>
        rcases h1 : (to == 0) with _ | _
        · go_wp2
          go_roundw
          case rel => exact ⟨i + 1, by omega, by go_num, by rw [HNX.out, hall, HWB.out, h1]; rfl, by first | rfl | trivial⟩
          case measure => simp [intOf]; omega
        · go_wp2
          go_roundw
          case rel => exact ⟨i + 1, by omega, by go_num, by rw [HNX.out, hall, HWB.out, h1]; rfl, by first | rfl | trivial⟩
          case measure => simp [intOf]; omega
    · obtain rfl : i = l.length := by omega
      have hq0 : decide ((l.length : Int) < (l.length : Int)) = false := decide_eq_false (by omega)
      rw [show (List.range l.length).all (wholeB l d) = wholeL l d from rfl, HW.out]
      go_wp2
      go_returns
      rw [RetFindR, HSS.out]
      exact ⟨none, 0, ds, ad, cd, rfl, .inl rfl, HE.out, Nat.le_add_right _ _, .of (Below.refl _ _), Near.self _ _⟩
set_option maxHeartbeats 32000000 in
theorem findr_go (l : List HCall) (al : Option Addr) (cl E B gf : Nat) (hl : l.length ≤ 12) (hEg : E ≤ gf) (hal : ∀ b o s, al = some ⟨b, o, s⟩ → b < E) (u : Nat)
    (IH : ∀ (d : Nat) (t : List Force) (a : Option Addr) (c : Nat) (w : World) (ds : List Ded) (ad : Option Addr) (cd : Nat), d < 65536 → tabOk t = true → LRow layFce w a t → (t = [] ∨ Away gf gf ad a) →
      EnvR l al cl B gf w ds ad cd → undone l d ≤ u → ds.length + roomN u ≤ 1000000000 → E ≤ w.heap.size →
      Calls Tryd.prog 37 #[.pointer (some ⟨gf, 0, none⟩), .int .u16 d, .slice a t.length c] w (RetFindR l al cl B gf u ds.length ad d t w))
    (d : Nat) (t : List Force) (a : Option Addr) (c : Nat) (w : World) (ds : List Ded) (ad : Option Addr) (cd : Nat) (hd : d < 65536) (hok : tabOk t = true) (hr : LRow layFce w a t) (ha : t = [] ∨ Away gf gf ad a)
    (he : EnvR l al cl B gf w ds ad cd) (hu : undone l d ≤ u + 1) (hn : ds.length + roomN (u + 1) ≤ 1000000000) (hE : E ≤ w.heap.size) (hw : wholeL l d = false) :
    Calls Tryd.prog 37 #[.pointer (some ⟨gf, 0, none⟩), .int .u16 d, .slice a t.length c] w (RetFindR l al cl B gf (u + 1) ds.length ad d t w) := by
  have hlen := tabOk_len hok
  have HE := Lib.hid he
  have HW := Lib.hid hw
  have HOK := Lib.hid hok
  have HR := Lib.hid hr
  have HA := Lib.hid ha
  have HAL := Lib.hid hal
  have HIH := Lib.hid IH
  have hl0 : 0 < l.length := by
    rcases Nat.eq_zero_or_pos l.length with h | h
    · exfalso; unfold wholeL at hw; rw [h] at hw; cases hw
    · exact h
  obtain ⟨b, o, hab, -⟩ := LRow.range he.rl hl0
  have HHIT := Lib.hid (fun (k : Nat) (r : List Nat) (hk : k < l.length) (h : T l d t k = none) (h2 : tryK l (S l) d t k = some r) => T_hit hl hw hk h h2)
  have HEND : Hid (T l d t l.length = none → S l d t = none) := fun h => by rw [T_end hl hw]; exact h
  subst hab
  have e0 := he.bx.cell (j := 0) rfl
  have hroom : ds.length ≤ 1000000000 := by omega
  clear he hw hok hr ha hal IH
  go_enter Tryd.func37, Tryd.ntmps37
  go_wp2
  go_loopw [8, 9] (fun s8 s9 ws => ∃ i : Nat, i ≤ l.length ∧ s9 = .int .i64 i ∧ s8 = .bool ((List.range i).all (wholeB l d)) ∧ w = ws) (fun _ s9 _ => l.length - (intOf s9).toNat)
  case atStart => exact ⟨0, by omega, rfl, rfl, rfl⟩
  case round =>
    obtain ⟨i, hi, rfl, rfl, rfl⟩ := hrel
    by_cases hlt : i < l.length
    · obtain ⟨b1, o1, hb1, hcs⟩ := LRow.range HE.out.rl hlt
      simp only [Option.some.injEq, Addr.mk.injEq, and_true] at hb1
      obtain ⟨h1, h2⟩ := hb1
      subst h1 h2
      have e2 : w.cell? ⟨b, o + i * 20 + 14, none⟩ = some (.int .i64 l[i].to) := hcs _ (Below.refl _ _) 14 _ rfl
      have HWB : Hid (wholeB l d i = (l[i].to == 0 || d.testBit i)) := by show _ = _; unfold wholeB; rw [toAt_eq hlt]
      have HNX := Lib.hid (all_next l d i)
      have hbit := and1_1 d i hd
      have hq0 : decide ((i : Int) < (l.length : Int)) = true := decide_eq_true (by omega)
      generalize l[i].to = to at e2 HWB
      generalize d.testBit i = bt at hbit HWB
      clear hcs
      cases hall : (List.range i).all (wholeB l d) with
      | false =>
        go_wp2
        go_roundw
        case rel => exact ⟨i + 1, by omega, by go_num, by rw [HNX.out, hall]; rfl, by first | rfl | trivial⟩
        case measure => simp [intOf]; omega
      | true =>
        rcases h1 : (to == 0) with _ | _
        · go_wp2
          go_roundw
          case rel => exact ⟨i + 1, by omega, by go_num, by rw [HNX.out, hall, HWB.out, h1]; rfl, by first | rfl | trivial⟩
          case measure => simp [intOf]; omega
        · go_wp2
          go_roundw
          case rel => exact ⟨i + 1, by omega, by go_num, by rw [HNX.out, hall, HWB.out, h1]; rfl, by first | rfl | trivial⟩
          case measure => simp [intOf]; omega
    · obtain rfl : i = l.length := by omega
      have hq0 : decide ((l.length : Int) < (l.length : Int)) = false := decide_eq_false (by omega)
      rw [show (List.range l.length).all (wholeB l d) = wholeL l d from rfl, HW.out]
      go_wp2_with fail
      clear e0
      go_loopw [10] (fun i wr => ∃ j : Nat, j ≤ ds.length ∧ i = .int .i64 j ∧ Hid (Below w.heap.size w wr)) (fun i _ => ds.length - (intOf i).toNat)
      case atStart => exact ⟨0, by omega, rfl, Below.refl _ _⟩
      case round =>
        obtain ⟨j, hj, rfl, HB⟩ := hrel
        have HE2 := Lib.hid (HE.out.next HB.out)
        have e1 := HE2.out.bx.cell (j := 1) rfl
        by_cases hlt : j < ds.length
        · have hq0 : decide ((j : Int) < (ds.length : Int)) = true := decide_eq_true (by omega)
          have hi0 : decide ((0 : Int) ≤ (j : Int)) = true := decide_eq_true (by omega)
          obtain ⟨bd, od, ead, hcs⟩ := LRow.range HE2.out.rd hlt
          have HD := Lib.hid (HE2.out.dk _ (List.getElem_mem hlt))
          have HRT := Lib.hid (LRow.below HR.out HB.out)
          subst ead
          have c0 : wr.cell? ⟨bd, od + j * 2, none⟩ = some (.int .u16 ds[j].d) := hcs _ (Below.refl _ _) 0 _ rfl
          have c1 : wr.cell? ⟨bd, od + j * 2 + 1, none⟩ = some (.slice ds[j].a ds[j].t.length ds[j].c) := hcs _ (Below.refl _ _) 1 _ rfl
          clear hcs
          generalize ds[j] = x at c0 c1 HD
          obtain ⟨xd, xa, xc, xt⟩ := x
          dsimp only at c0 c1
          rcases hx : ((xd : Int) == (d : Int)) with _ | _
          · go_wp2_with fail
            go_roundw
            case rel => exact ⟨j + 1, by omega, by go_num, HB.out⟩
            case measure => simp [intOf]; omega
          · have hxi : (xd : Int) = (d : Int) := by simpa using hx
            have hxd : xd = d := by omega
            clear hxi
            subst hxd
            have hx16 : xt.length ≤ 16 := tabOk_len HD.out.2.1
            have hxl : xt.length ≤ 1000000 := by omega
            clear hx16
            have htl : t.length ≤ 1000000 := by omega
            have HXR : Hid (LRow layFce wr xa xt) := HD.out.2.2.2.1
            have HXS : Hid (S l xd xt = none) := HD.out.2.2.1
            rcases hxt : decide (xt = t) with _ | _
            · have HXT := Lib.hid hxt
              clear hxt
              go_wp2_with (first
                | (go_at_call 42; ((with_reducible refine (samer_any xt t xa a xt.length xc t.length c wr rfl rfl hxl htl HXR.out HRT.out).mono ?_); rw [HXT.out]; rintro e w4 ⟨rfl, hb4⟩; have HB4 := Lib.hid hb4; clear hb4)))
              go_roundw
              case rel => exact ⟨j + 1, by omega, by go_num, HB.out.trans (HB4.out.mono HB.out.size)⟩
              case measure => simp [intOf]; omega
            · have HXT := Lib.hid hxt
              have HSS : Hid (S l xd t = none) := by rw [← of_decide_eq_true hxt]; exact HXS.out
              clear hxt
              go_wp2_with (first
                | (go_at_call 42; ((with_reducible refine (samer_any xt t xa a xt.length xc t.length c wr rfl rfl hxl htl HXR.out HRT.out).mono ?_); rw [HXT.out]; rintro e w4 ⟨rfl, hb4⟩; have HB4 := Lib.hid hb4; clear hb4)))
              go_returns
              rw [RetFindR, HSS.out]
              exact ⟨none, 0, ds, _, cd, rfl, .inl rfl, HE2.out.next HB4.out, Nat.le_add_right _ _, .of (HB.out.trans (HB4.out.mono HB.out.size)), Near.self _ _⟩
        · obtain rfl : j = ds.length := by omega
          have hq0 : decide ((ds.length : Int) < (ds.length : Int)) = false := decide_eq_false (by omega)
          go_wp2_with fail
          clear e1
          obtain ⟨w3, hw3⟩ : ∃ w3, w3 = wr := ⟨_, rfl⟩
          subst hw3
          have hE3 : E ≤ w3.heap.size := Nat.le_trans hE HB.out.size
          go_loopw [11] (fun i wr => ∃ (k : Nat) (ar : Option Addr) (cr : Nat) (dr : List Ded), k ≤ l.length ∧ i = .int .i64 k ∧ Hid (EnvR l (some ⟨b, o, none⟩) cl B gf wr dr ar cr) ∧ dr.length ≤ ds.length + k * roomN u ∧ Hid (Fr gf gf ad w3 wr) ∧ Hid (Near w3.heap.size ad ar) ∧ Hid (T l d t k = none)) (fun i _ => l.length - (intOf i).toNat)
          case atStart => exact ⟨0, ad, cd, ds, by omega, rfl, HE2.out, by omega, .of (Below.refl _ _), Near.self _ _, T_zero _ _ _⟩
          case round =>
            obtain ⟨k, ar, cr, dr, hk, rfl, HER, hnr, HFR, HNR, HTK⟩ := hrel
            obtain ⟨wo, hwo⟩ : ∃ wo, wo = wr := ⟨_, rfl⟩
            subst hwo
            have e1 := HER.out.bx.cell (j := 0) rfl
            have hER : E ≤ wo.heap.size := Nat.le_trans hE3 HFR.out.size
            by_cases hlt : k < l.length
            · have hd0 : decide ((k : Int) < (l.length : Int)) = true := decide_eq_true (by omega)
              have hk16 : k < 16 := by omega
              have hk12 : k < 12 := by omega
              have hj0 : decide ((0 : Int) ≤ (k : Int)) = true := decide_eq_true (by omega)
              have hbit := and1_0 d k hd
              have hxr : Hid (∀ w', LRow layCal w' (some ⟨b, o, none⟩) l → w'.rangeAt b (o + k * 20) (HCall.cells l[k])) := fun w' hr => by
                obtain ⟨b', o', e', hcs⟩ := LRow.range hr hlt
                simp only [Option.some.injEq, Addr.mk.injEq, and_true] at e'
                obtain ⟨rfl, rfl⟩ := e'
                exact hcs w' (Below.refl _ _)
              go_wp2_with fail
              go_loopw [12, 13] (fun s12 s13 wr => ∃ (j : Nat) (fr : Bool), j ≤ l.length ∧ s13 = .int .i64 j ∧ s12 = .bool fr ∧ Hid (fr = (!d.testBit k && !(List.range j).any (waitsB l d k))) ∧ Hid (Below wo.heap.size wo wr)) (fun _ s13 _ => l.length - (intOf s13).toNat)
              case atStart => exact ⟨0, !d.testBit k, by omega, rfl, rfl, by show _ = _; simp, Below.refl _ _⟩
              case round =>
                obtain ⟨j, fr, hj, rfl, rfl, HFE, HBJ⟩ := hrel
                have HEJ := Lib.hid (HER.out.next HBJ.out)
                clear e1
                have e1 := HEJ.out.bx.cell (j := 0) rfl
                by_cases hlt2 : j < l.length
                · have hi0 : decide ((0 : Int) ≤ (j : Int)) = true := decide_eq_true (by omega)
                  have hi1 : decide ((j : Int) < (l.length : Int)) = true := decide_eq_true (by omega)
                  have e3 : wr.cell? ⟨b, o + k * 20 + 13, none⟩ = some (.int .i64 l[k].frm) := hxr.out wr HEJ.out.rl 13 _ rfl
                  obtain ⟨b2, o2, e2, hcs⟩ := LRow.range HEJ.out.rl hlt2
                  simp only [Option.some.injEq, Addr.mk.injEq, and_true] at e2
                  obtain ⟨h1, h2⟩ := e2
                  subst h1 h2
                  have e2 : wr.cell? ⟨b, o + j * 20 + 14, none⟩ = some (.int .i64 l[j].to) := hcs _ (Below.refl _ _) 14 _ rfl
                  clear hcs
                  have HW : Hid (waitsB l d k j = (j != k && !d.testBit j && l[j].to != 0 && decide (l[j].to < l[k].frm))) := by show _ = _; unfold waitsB; rw [toAt_eq hlt2, frAt_eq hlt]
                  have HNX := Lib.hid (any_next l d k j)
                  have hbj := and1_0 d j hd
                  clear hbit
                  generalize l[j].to = tj at e2 HW
                  generalize l[k].frm = fk at e3 HW
                  generalize d.testBit j = bj at hbj HW
                  have hkp : ((j : Int) != (k : Int)) = (j != k) := by
                    by_cases h : j = k
                    · subst h; simp
                    · rw [bne_iff_ne.2 h, bne_iff_ne.2 (by omega)]
                  rcases h0 : (j != k) with _ | _
                  · have HO : Hid (waitsB l d k j = false) := by show _ = _; rw [HW.out, h0]; rfl
                    rw [h0] at hkp
                    clear h0
                    go_wp2_with fail
                    (try simp only [Act.put])
                    refine wp_region_quiet_lit (by kernel_rfl) (by kernel_rfl) ?_
                    repeat (go_big_quiet_step (fail))
                    refine wpQuiet_nil ?_
                    intro _ hw'
                    obtain ⟨nq, hw2⟩ := hw'
                    subst hw2
                    go_wp2_with fail
                    go_roundw
                    case rel => exact ⟨j + 1, fr, by omega, by go_num, by first | rfl | trivial, by show _ = _; rw [HNX.out, HO.out, Bool.or_false]; exact HFE.out, below_drewN HBJ.out _⟩
                    case measure => simp [intOf]; omega
                  · rw [h0] at hkp
                    cases bj with
                    | true =>
                      have HO : Hid (waitsB l d k j = false) := by show _ = _; rw [HW.out]; simp
                      clear h0
                      go_wp2_with fail
                      (try simp only [Act.put])
                      refine wp_region_quiet_lit (by kernel_rfl) (by kernel_rfl) ?_
                      repeat (go_big_quiet_step (fail))
                      refine wpQuiet_nil ?_
                      intro _ hw'
                      obtain ⟨nq, hw2⟩ := hw'
                      subst hw2
                      go_wp2_with fail
                      go_roundw
                      case rel => exact ⟨j + 1, fr, by omega, by go_num, by first | rfl | trivial, by show _ = _; rw [HNX.out, HO.out, Bool.or_false]; exact HFE.out, below_drewN HBJ.out _⟩
                      case measure => simp [intOf]; omega
                    | false =>
                      rcases h1 : (tj != 0) with _ | _
                      · have HO : Hid (waitsB l d k j = false) := by show _ = _; rw [HW.out, h1]; simp
                        clear h0
                        go_wp2_with fail
                        (try simp only [Act.put])
                        refine wp_region_quiet_lit (by kernel_rfl) (by kernel_rfl) ?_
                        repeat (go_big_quiet_step (fail))
                        refine wpQuiet_nil ?_
                        intro _ hw'
                        obtain ⟨nq, hw2⟩ := hw'
                        subst hw2
                        go_wp2_with fail
                        go_roundw
                        case rel => exact ⟨j + 1, fr, by omega, by go_num, by first | rfl | trivial, by show _ = _; rw [HNX.out, HO.out, Bool.or_false]; exact HFE.out, below_drewN HBJ.out _⟩
                        case measure => simp [intOf]; omega
                      · by_cases h2 : tj < fk
                        · have HO : Hid (waitsB l d k j = true) := by show _ = _; rw [HW.out, h0, h1, decide_eq_true h2]; rfl
                          have d2 : decide (tj < fk) = true := decide_eq_true h2
                          clear h0 h2
                          go_wp2_with fail
                          (try simp only [Act.put])
                          refine wp_region_quiet_lit (by kernel_rfl) (by kernel_rfl) ?_
                          repeat (go_big_quiet_step (fail))
                          refine wpQuiet_nil ?_
                          intro _ hw'
                          obtain ⟨nq, hw2⟩ := hw'
                          subst hw2
                          go_wp2_with fail
                          go_roundw
                          case rel => exact ⟨j + 1, false, by omega, by go_num, by first | rfl | trivial, by show _ = _; rw [HNX.out, HO.out, Bool.or_true]; simp, below_drewN HBJ.out _⟩
                          case measure => simp [intOf]; omega
                        · have HO : Hid (waitsB l d k j = false) := by show _ = _; rw [HW.out, decide_eq_false h2]; simp
                          have d2 : decide (tj < fk) = false := decide_eq_false h2
                          clear h0 h2
                          go_wp2_with fail
                          (try simp only [Act.put])
                          refine wp_region_quiet_lit (by kernel_rfl) (by kernel_rfl) ?_
                          repeat (go_big_quiet_step (fail))
                          refine wpQuiet_nil ?_
                          intro _ hw'
                          obtain ⟨nq, hw2⟩ := hw'
                          subst hw2
                          go_wp2_with fail
                          go_roundw
                          case rel => exact ⟨j + 1, fr, by omega, by go_num, by first | rfl | trivial, by show _ = _; rw [HNX.out, HO.out, Bool.or_false]; exact HFE.out, below_drewN HBJ.out _⟩
                          case measure => simp [intOf]; omega
                · obtain rfl : j = l.length := by omega
                  have hi1 : decide ((l.length : Int) < (l.length : Int)) = false := decide_eq_false (by omega)
                  have HFW : Hid (fr = (!d.testBit k && !waitsL l d k)) := HFE.out
                  clear HFE
                  cases fr with
                  | false =>
                    have HN : Hid (T l d t (k + 1) = none) := T_next HTK.out (by
                      have h := HFW.out
                      cases hb : d.testBit k with
                      | true => exact try_bit hb
                      | false =>
                        cases hw : waitsL l d k with
                        | true => exact try_wait hw
                        | false => rw [hb, hw] at h; cases h)
                    clear HFW
                    go_wp2_with fail
                    go_roundw
                    case rel => exact ⟨k + 1, ar, cr, dr, by omega, by go_num, HEJ.out, room_step hnr, HFR.out.trans (Fr.of (ao := ar) HBJ.out) HNR.out, HNR.out, HN.out⟩
                    case measure => simp [intOf]; omega
                  | true =>
                    have hbw : d.testBit k = false ∧ waitsL l d k = false := by
                      have h := HFW.out
                      cases hb : d.testBit k <;> cases hw : waitsL l d k <;> simp [hb, hw] at h ⊢
                    obtain ⟨hb, hwt⟩ := hbw
                    clear HFW
                    clear e1
                    have HBAD := Lib.hid (fun h1 h2 => T_next HTK.out (try_bad (f := S l) (d := d) (t := t) hlt h1 h2))
                    have HTG := Lib.hid (fun h1 => try_go (f := S l) (t := t) hlt hb hwt h1)
                    have HUN := Lib.hid (undone_lt hlt hb)
                    have HDT : Hid (tabOk (doF t l[k].cmd).1 = true) := tabOk_do HOK.out
                    have hsj : wo.heap.size ≤ wr.heap.size := HBJ.out.size
                    have HT4 : Hid (LRow layFce wr a t) := LRow.below (HFR.out.rowT (LRow.below HR.out HB.out) HA.out) HBJ.out
                    generalize l[k] = x at hxr HBAD HTG HDT
                    obtain ⟨y, f, to, an⟩ := x
                    dsimp only at HBAD HTG HDT
                    rcases hdo : doF t y with ⟨t5, y2⟩
                    rw [hdo] at HBAD HTG HDT
                    dsimp only at HBAD HTG HDT
                    have HDO := Lib.hid hdo
                    clear hdo hb hwt
                    have HCM : Hid (wr.rangeAt b (o + k * 20) y.cells) := cmd_range (hxr.out wr HEJ.out.rl)
                    have hlen1 : t.length ≤ 1000 := by omega
                    have e1 := HEJ.out.bx.cell (j := 0) rfl
                    go_wp2_with (first
                      | (refine wpList_load_as layHcm rfl (.tmp 154) rfl b (o + k * 20) rfl y (HCmd.agg y) rfl HCM.out ?_)
                      | (go_at_call 10; ((with_reducible refine (refdo_any t y a t.length c wr rfl hlen1 HT4.out).mono ?_); rw [HDO.out]; rintro e w5 ⟨a5, c5, rfl, hle5, hno5, hr5, hnr5, hb5⟩; have HE5 := Lib.hid (HEJ.out.next hb5); have HR5 := Lib.hid hr5; have HN5 := Lib.hid hnr5; have HB5 := Lib.hid (HBJ.out.trans (hb5.mono HBJ.out.size)); have hs5 := hb5.size; clear hr5 hnr5 hno5 hle5 hb5))
                      | (refine wpList_store_box layAns rfl (.tmp 15) (.tmp 158) rfl y2 rfl rfl rfl ?_; intro w6 hw6 ht6 hb6 hs6; have HE6 := Lib.hid (HE5.out.next hb6); have HR6 := Lib.hid (LRow.below HR5.out hb6); have HA6 : Hid (Box w6 w5.heap.size y2.cells) := ⟨hw6, ht6⟩; have HB6 := Lib.hid (HB5.out.trans (hb6.mono HB5.out.size)); have hs6' : w5.heap.size ≤ w6.heap.size := hb6.size; clear hw6 ht6 hb6 hs6))
                    clear HCM HT4 e1
                    have e1 := HE6.out.bx.cell (j := 0) rfl
                    have e3 : w6.cell? ⟨b, o + k * 20 + 14, none⟩ = some (.int .i64 to) := hxr.out w6 HE6.out.rl 14 _ rfl
                    have hsW : wo.heap.size ≤ w6.heap.size := HB6.out.size
                    rcases hto : (to != 0) with _ | _
                    · have HTO : Hid (to = 0 ∨ y2 = an) := .inl (by simpa using hto)
                      (try simp only [Act.put])
                      refine wp_region_quiet_lit (by kernel_rfl) (by kernel_rfl) ?_
                      repeat (go_big_quiet_step (fail))
                      refine wpQuiet_nil ?_
                      intro w7 hw'
                      obtain ⟨nq, hw2⟩ := hw'
                      have hb7 : Below w6.heap.size w6 w7 := by rw [hw2]; exact below_drewN (Below.refl _ _) _
                      clear hw2
                      have HE7 := Lib.hid (HE6.out.next hb7)
                      have HR7 := Lib.hid (LRow.below HR6.out hb7)
                      have hsw7 := hb7.size
                      have HB7 := Lib.hid (HB6.out.trans (hb7.mono hsW))
                      have hE7 : E ≤ w7.heap.size := by omega
                      have hs37 : w3.heap.size ≤ w7.heap.size := by have := HFR.out.size; omega
                      have HAW : Hid (t5 = [] ∨ Away gf gf ar a5) := .inr fun b o s e => by
                        have h1 : wr.heap.size ≤ b := by
                          rcases HN5.out b o s e with h1 | ⟨_, _, h1⟩
                          · exact h1
                          · cases h1
                        have h2 := HEJ.out.siz
                        have h3 := HEJ.out.lt
                        exact ⟨by omega, by omega, fun o' s' e' => by have := (own_place HEJ.out.ow _ _ _ e').2; omega⟩
                      clear hb7 e1 e3
                      obtain ⟨D, hD⟩ : ∃ D, D = d ||| 2 ^ k := ⟨_, rfl⟩
                      have hor : bits .or .u16 (d : Int) (2 ^ k) = (D : Int) := by rw [hD]; exact bitN hd hk16
                      have hD6 : D < 65536 := by rw [hD]; exact or_lt d k hd hk16
                      rw [← hD] at HTG HUN
                      have HDD := Lib.hid hD
                      clear hD
                      have hpw : IntKind.u16.wrap (2 ^ k) = 2 ^ k := wrap_pow hk16
                      have HRM := Lib.hid (room_nextR hnr hk12 hn)
                      have HCALL := Lib.hid (HIH.out D t5 a5 c5 w7 dr ar cr hD6 HDT.out HR7.out HAW.out HE7.out (by have := HUN.out; omega) HRM.out.1 hE7)
                      clear HDT HE5 HE6 HR5 HR6 HR7 HN5 HB5 HB6 HAW
                      rcases hS : S l D t5 with _ | rr
                      · have HSV := Lib.hid hS
                        have HN := Lib.hid (T_next HTK.out (by rw [HTG.out HTO.out, hS]; rfl))
                        clear hS
                        go_wp2_with (first
                          | (go_at_call 37; ((with_reducible refine HCALL.out.mono ?_); intro e w10 hret; rw [RetFindR, HSV.out] at hret; obtain ⟨a10, c10, d10, ad10, cd10, rfl, hr10, he10, hn10, hf10, hnn10⟩ := hret; have HR10 := Lib.hid hr10; have HE10 := Lib.hid he10; have HF10 := Lib.hid ((HFR.out.trans (Fr.of (ao := ar) HB7.out) HNR.out).trans hf10 HNR.out); have HN10 : Hid (Near w3.heap.size ad ad10) := near_trans HNR.out hnn10 hs37; clear hr10 he10 hf10 hnn10)))
                        go_roundw
                        case rel => exact ⟨k + 1, ad10, cd10, d10, by omega, by go_num, HE10.out, Nat.le_trans hn10 HRM.out.2, HF10.out, HN10.out, HN.out⟩
                        case measure => simp [intOf]; omega
                      · have HSV := Lib.hid hS
                        have HSS := Lib.hid (HHIT.out k (k :: rr) hlt HTK.out (by rw [HTG.out HTO.out, hS]; rfl))
                        have hr13 := srch_le l 13 D t5 rr hS
                        have hrr : rr.length ≤ 1000 := by omega
                        clear hr13
                        clear hS
                        go_wp2_with (first
                          | (go_at_call 37; ((with_reducible refine HCALL.out.mono ?_); intro e w10 hret; rw [RetFindR, HSV.out] at hret; obtain ⟨a10, c10, d10, ad10, cd10, rfl, hr10, he10, hn10, hf10, hnn10⟩ := hret; have HR10 := Lib.hid hr10; have HE10 := Lib.hid he10; have HF10 := Lib.hid ((HFR.out.trans (Fr.of (ao := ar) HB7.out) HNR.out).trans hf10 HNR.out); have HN10 : Hid (Near w3.heap.size ad ad10) := near_trans HNR.out hnn10 hs37; clear hr10 he10 hf10 hnn10))
                          | (at_builtin; refine wpList_cat rfl (.tmp 193) (.tmp 194) rfl k rfl a10 rr.length c10 rr rfl rfl HR10.out hrr ?_; intro a12 c12 w12 hr12 hb12; have HR12 := Lib.hid hr12; have HB12 := Lib.hid hb12; clear hr12 hb12))
                        go_returns
                        rw [RetFindR, HSS.out]
                        exact ⟨a12, c12, d10, ad10, cd10, rfl, HR12.out, HE10.out.next HB12.out, Nat.le_trans (Nat.le_trans hn10 HRM.out.2) (room_all hk12), ((Fr.of HB.out).trans HF10.out (Near.self _ _)).trans (Fr.of (ao := ad10) HB12.out) (near_down HN10.out HB.out.size), near_down HN10.out HB.out.size⟩
                    · have c0 := HA6.out.cell (j := 0) rfl
                      have c1 := HA6.out.cell (j := 1) rfl
                      have c2 := HA6.out.cell (j := 2) rfl
                      have c3 := HA6.out.cell (j := 3) rfl
                      have c4 := HA6.out.cell (j := 4) rfl
                      have HAN : Hid (w6.rangeAt b (o + k * 20 + 15) an.cells) := ans_range (hxr.out w6 HE6.out.rl)
                      have d0 : w6.cell? ⟨b, o + k * 20 + 15, none⟩ = some (.int .i64 an.e) := HAN.out 0 _ rfl
                      have d1 : w6.cell? ⟨b, o + k * 20 + 16, none⟩ = some (.int .i64 an.rate) := HAN.out 1 _ rfl
                      have d2 : w6.cell? ⟨b, o + k * 20 + 17, none⟩ = some (.int .i64 an.burst) := HAN.out 2 _ rfl
                      have d3 : w6.cell? ⟨b, o + k * 20 + 18, none⟩ = some (.int .i64 an.lease) := HAN.out 3 _ rfl
                      have d4 : w6.cell? ⟨b, o + k * 20 + 19, none⟩ = some (.int .i64 an.size) := HAN.out 4 _ rfl
                      have hq := fun w => aneq_run y2 an w
                      have HTZ : Hid (to ≠ 0) := by show to ≠ 0; simpa using hto
                      by_cases hya : y2 = an
                      · have HTO : Hid (to = 0 ∨ y2 = an) := .inr hya
                        rw [decide_eq_true hya] at hq
                        clear hya HAN
                        (try simp only [Act.put])
                        refine wp_region_quiet_lit (by kernel_rfl) (by kernel_rfl) ?_
                        repeat (go_big_quiet_step (fail))
                        refine wpQuiet_nil ?_
                        intro w7 hw'
                        obtain ⟨nq, hw2⟩ := hw'
                        have hb7 : Below w6.heap.size w6 w7 := by rw [hw2]; exact below_drewN (Below.refl _ _) _
                        clear hw2
                        clear c0 c1 c2 c3 c4 d0 d1 d2 d3 d4 hq
                        have HE7 := Lib.hid (HE6.out.next hb7)
                        have HR7 := Lib.hid (LRow.below HR6.out hb7)
                        have hsw7 := hb7.size
                        have HB7 := Lib.hid (HB6.out.trans (hb7.mono hsW))
                        have hE7 : E ≤ w7.heap.size := by omega
                        have hs37 : w3.heap.size ≤ w7.heap.size := by have := HFR.out.size; omega
                        have HAW : Hid (t5 = [] ∨ Away gf gf ar a5) := .inr fun b o s e => by
                          have h1 : wr.heap.size ≤ b := by
                            rcases HN5.out b o s e with h1 | ⟨_, _, h1⟩
                            · exact h1
                            · cases h1
                          have h2 := HEJ.out.siz
                          have h3 := HEJ.out.lt
                          exact ⟨by omega, by omega, fun o' s' e' => by have := (own_place HEJ.out.ow _ _ _ e').2; omega⟩
                        clear hb7 e1 e3
                        obtain ⟨D, hD⟩ : ∃ D, D = d ||| 2 ^ k := ⟨_, rfl⟩
                        have hor : bits .or .u16 (d : Int) (2 ^ k) = (D : Int) := by rw [hD]; exact bitN hd hk16
                        have hD6 : D < 65536 := by rw [hD]; exact or_lt d k hd hk16
                        rw [← hD] at HTG HUN
                        have HDD := Lib.hid hD
                        clear hD
                        have hpw : IntKind.u16.wrap (2 ^ k) = 2 ^ k := wrap_pow hk16
                        have HRM := Lib.hid (room_nextR hnr hk12 hn)
                        have HCALL := Lib.hid (HIH.out D t5 a5 c5 w7 dr ar cr hD6 HDT.out HR7.out HAW.out HE7.out (by have := HUN.out; omega) HRM.out.1 hE7)
                        clear HDT HE5 HE6 HR5 HR6 HR7 HN5 HB5 HB6 HAW
                        rcases hS : S l D t5 with _ | rr
                        · have HSV := Lib.hid hS
                          have HN := Lib.hid (T_next HTK.out (by rw [HTG.out HTO.out, hS]; rfl))
                          clear hS
                          go_wp2_with (first
                            | (go_at_call 37; ((with_reducible refine HCALL.out.mono ?_); intro e w10 hret; rw [RetFindR, HSV.out] at hret; obtain ⟨a10, c10, d10, ad10, cd10, rfl, hr10, he10, hn10, hf10, hnn10⟩ := hret; have HR10 := Lib.hid hr10; have HE10 := Lib.hid he10; have HF10 := Lib.hid ((HFR.out.trans (Fr.of (ao := ar) HB7.out) HNR.out).trans hf10 HNR.out); have HN10 : Hid (Near w3.heap.size ad ad10) := near_trans HNR.out hnn10 hs37; clear hr10 he10 hf10 hnn10)))
                          go_roundw
                          case rel => exact ⟨k + 1, ad10, cd10, d10, by omega, by go_num, HE10.out, Nat.le_trans hn10 HRM.out.2, HF10.out, HN10.out, HN.out⟩
                          case measure => simp [intOf]; omega
                        · have HSV := Lib.hid hS
                          have HSS := Lib.hid (HHIT.out k (k :: rr) hlt HTK.out (by rw [HTG.out HTO.out, hS]; rfl))
                          have hr13 := srch_le l 13 D t5 rr hS
                          have hrr : rr.length ≤ 1000 := by omega
                          clear hr13
                          clear hS
                          go_wp2_with (first
                            | (go_at_call 37; ((with_reducible refine HCALL.out.mono ?_); intro e w10 hret; rw [RetFindR, HSV.out] at hret; obtain ⟨a10, c10, d10, ad10, cd10, rfl, hr10, he10, hn10, hf10, hnn10⟩ := hret; have HR10 := Lib.hid hr10; have HE10 := Lib.hid he10; have HF10 := Lib.hid ((HFR.out.trans (Fr.of (ao := ar) HB7.out) HNR.out).trans hf10 HNR.out); have HN10 : Hid (Near w3.heap.size ad ad10) := near_trans HNR.out hnn10 hs37; clear hr10 he10 hf10 hnn10))
                            | (at_builtin; refine wpList_cat rfl (.tmp 193) (.tmp 194) rfl k rfl a10 rr.length c10 rr rfl rfl HR10.out hrr ?_; intro a12 c12 w12 hr12 hb12; have HR12 := Lib.hid hr12; have HB12 := Lib.hid hb12; clear hr12 hb12))
                          go_returns
                          rw [RetFindR, HSS.out]
                          exact ⟨a12, c12, d10, ad10, cd10, rfl, HR12.out, HE10.out.next HB12.out, Nat.le_trans (Nat.le_trans hn10 HRM.out.2) (room_all hk12), ((Fr.of HB.out).trans HF10.out (Near.self _ _)).trans (Fr.of (ao := ad10) HB12.out) (near_down HN10.out HB.out.size), near_down HN10.out HB.out.size⟩
                      · have HN := Lib.hid (HBAD.out HTZ.out hya)
                        rw [decide_eq_false hya] at hq
                        clear hya HAN
                        (try simp only [Act.put])
                        refine wp_region_quiet_lit (by kernel_rfl) (by kernel_rfl) ?_
                        repeat (go_big_quiet_step (fail))
                        refine wpQuiet_nil ?_
                        intro w7 hw'
                        obtain ⟨nq, hw2⟩ := hw'
                        have hb7 : Below w6.heap.size w6 w7 := by rw [hw2]; exact below_drewN (Below.refl _ _) _
                        clear hw2
                        go_wp2_with fail
                        go_roundw
                        case rel => exact ⟨k + 1, ar, cr, dr, by omega, by go_num, HE6.out.next hb7, room_step hnr, HFR.out.trans (Fr.of (ao := ar) (HB6.out.trans (hb7.mono hsW))) HNR.out, HNR.out, HN.out⟩
                        case measure => simp [intOf]; omega
            · obtain rfl : k = l.length := by omega
              have hd0 : decide ((l.length : Int) < (l.length : Int)) = false := decide_eq_false (by omega)
              have HSS := Lib.hid (HEND.out HTK.out)
              have hrm := room_end hnr hl
              have e2 := HER.out.bx.cell (j := 1) rfl
              have HA1 : Hid (t = [] ∨ Away gf gf ar a) := away_on HA.out HR.out HNR.out HB.out.size
              have HDK : Hid (DeadOk l gf ar wo ⟨d, a, c, t⟩) := ⟨hd, HOK.out, HSS.out, HFR.out.rowT (LRow.below HR.out HB.out) HA.out, HA1.out⟩
              have hdr : dr.length ≤ 2000000000 := by omega
              go_wp2_with (first
                | (at_builtin; refine wpList_pushD rfl (.tmp 200) (.tmp 204) rfl B ar dr.length cr dr rfl rfl HER.out.ow ⟨d, a, c, t⟩ rfl rfl hdr HER.out.siz ?_; intro a8 c8 w8 ho8 hg8 hn8; have HO8 := Lib.hid ho8; have HG8 := Lib.hid hg8; have HN8 := Lib.hid hn8; have HBO8 := Lib.hid (HER.out.gobox hg8); clear ho8 hg8 hn8 e2)
                | (refine wpList_store_field rfl (.tmp 207) (.tmp 205) rfl (by kernel_rfl) gf 1 [.slice (some ⟨b, o, none⟩) l.length cl, .slice ar dr.length cr] (.slice a8 (dr.length + 1) c8) rfl rfl rfl rfl HBO8.out (by simp) ?_; intro w9 hb9 hw9; have HP := Lib.hid (HER.out.push hEg HAL.out HDK.out HG8.out HN8.out HO8.out hw9 hb9); clear hb9 hw9))
              go_returns
              rw [RetFindR, HSS.out]
              exact ⟨none, 0, dr ++ [⟨d, a, c, t⟩], a8, c8, rfl, .inl rfl, HP.out.1, by rw [List.length_append]; exact hrm, ((Fr.of HB.out).trans HFR.out (Near.self _ _)).trans HP.out.2 (near_down HNR.out HB.out.size), near_down (near_trans HNR.out HN8.out HFR.out.size) HB.out.size⟩
end Go.Proofs.YtkboojpkkhiceaaDoor
