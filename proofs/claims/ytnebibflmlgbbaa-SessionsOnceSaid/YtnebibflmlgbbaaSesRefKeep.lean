import Derived.Test.YtnebibflmlgbbaaSesKeep2
namespace Go.Proofs.Ytnebibflmlgbbaa
open Go.ChangeShapes Go.WideShapes Go.ChangeAt Go.RowKit

abbrev accS (x : Session) (l : List Session) : List Session × Bool := l.foldl (putStep Session.client x) ([], false)
theorem accS_len (x : Session) : ∀ (l : List Session) (acc : List Session × Bool), (l.foldl (putStep Session.client x) acc).1.length ≤ acc.1.length + l.length * 2
  | [], acc => by simp
  | y :: l, acc => by
    have := accS_len x l (putStep Session.client x acc y)
    have h2 : (putStep Session.client x acc y).1.length ≤ acc.1.length + 2 := by unfold putStep; simp only; split <;> split <;> simp
    rw [List.foldl_cons, List.length_cons]; omega

set_option maxHeartbeats 8000000 in
set_option maxRecDepth 100000 in
theorem refkeep_ses (l : List Session) (a : Option Addr) (n c : Nat) (id num : Int) (x : Ans) (w : World) (hn : l.length = n) (hl : n ≤ 10000) (hr : LRow laySes w a l) :
    Calls Try.prog 15 #[.slice a n c, .int .i64 id, .int .i64 num, x.agg] w (RetKeep w (keepS l id num x)) := by
  have HA : Hid (keepS l id num x = if mayS l id num = false then ([], 2) else if num ≤ lastS l id then ([], 150) else (insK Session.client ⟨id, num, x⟩ l, 0)) := rfl
  generalize keepS l id num x = res at HA ⊢
  have hm := le_maxLen (Nat.le_trans hl (by decide) : n ≤ 1048576)
  obtain ⟨xe, xr, xb, xl, xz⟩ := x
  cases hs : mayS l id num with
  | false =>
    have HS := Lib.hid hs
    rw [hs, if_pos rfl] at HA
    clear hs
    go_enter Try.func15, Try.ntmps15
    go_wp2_with (first
      | (go_at_call 19; ((with_reducible refine (refmay_ses l _ _ _ _ _ _ hn hm (LRow.below hr (by repeat' (first | (with_reducible exact Below.refl _ _) | (with_reducible assumption) | (with_reducible refine Below.drew ?_) | (with_reducible refine Below.more ?_ _) | (with_reducible refine Below.put ?_ ?_ _) | (with_reducible refine Below.next ?_ (by with_reducible assumption)) | (with_reducible exact Nat.le_refl _) | (with_reducible refine Below.size' ?_) | omega)))).mono ?_); rw [HS.out]; rintro e w2 ⟨rfl, hb⟩)))
    go_returns
    exact ⟨none, 0, by rw [HA.out]; rfl, by rw [HA.out]; exact Nat.le_refl _, Nat.zero_le _, fun _ => rfl, by rw [HA.out]; exact Row.nil _ _, (by repeat' (first | (with_reducible exact Below.refl _ _) | (with_reducible assumption) | (with_reducible refine Below.drew ?_) | (with_reducible refine Below.more ?_ _) | (with_reducible refine Below.put ?_ ?_ _) | (with_reducible refine Below.next ?_ (by with_reducible assumption)) | (with_reducible exact Nat.le_refl _) | (with_reducible refine Below.size' ?_) | omega))⟩
  | true =>
    have HS := Lib.hid hs
    obtain ⟨hs1, hi1, hi2, hn1⟩ := mayS_ok hs
    rw [hs, if_neg (by simp)] at HA
    generalize hla : lastS l id = la at HA
    have HLA := Lib.hid hla
    by_cases h1 : num ≤ la
    · rw [if_pos h1] at HA
      clear hs hs1 hla
      go_enter Try.func15, Try.ntmps15
      go_wp2_with (first
        | (go_at_call 19; ((with_reducible refine (refmay_ses l _ _ _ _ _ _ hn hm (LRow.below hr (by repeat' (first | (with_reducible exact Below.refl _ _) | (with_reducible assumption) | (with_reducible refine Below.drew ?_) | (with_reducible refine Below.more ?_ _) | (with_reducible refine Below.put ?_ ?_ _) | (with_reducible refine Below.next ?_ (by with_reducible assumption)) | (with_reducible exact Nat.le_refl _) | (with_reducible refine Below.size' ?_) | omega)))).mono ?_); rw [HS.out]; rintro e w2 ⟨rfl, hb⟩))
        | (go_at_call 13; ((with_reducible refine (reflast_ses l _ _ _ _ _ hn (by omega) (LRow.below hr (by repeat' (first | (with_reducible exact Below.refl _ _) | (with_reducible assumption) | (with_reducible refine Below.drew ?_) | (with_reducible refine Below.more ?_ _) | (with_reducible refine Below.put ?_ ?_ _) | (with_reducible refine Below.next ?_ (by with_reducible assumption)) | (with_reducible exact Nat.le_refl _) | (with_reducible refine Below.size' ?_) | omega)))).mono ?_); rw [HLA.out]; rintro e w3 ⟨rfl, hb3⟩)))
      go_returns
      exact ⟨none, 0, by rw [HA.out]; rfl, by rw [HA.out]; exact Nat.le_refl _, Nat.zero_le _, fun _ => rfl, by rw [HA.out]; exact Row.nil _ _, (by repeat' (first | (with_reducible exact Below.refl _ _) | (with_reducible assumption) | (with_reducible refine Below.drew ?_) | (with_reducible refine Below.more ?_ _) | (with_reducible refine Below.put ?_ ?_ _) | (with_reducible refine Below.next ?_ (by with_reducible assumption)) | (with_reducible exact Nat.le_refl _) | (with_reducible refine Below.size' ?_) | omega))⟩
    · rw [if_neg h1] at HA
      subst hn
      have HPR := Lib.hid (putRef_eq (key := Session.client) (x := ⟨id, num, ⟨xe, xr, xb, xl, xz⟩⟩) (chainOk_iff.1 hs1).2)
      clear hs hs1 hla
      have HSTEP : Hid (∀ k (hk : k < l.length), accS ⟨id, num, ⟨xe, xr, xb, xl, xz⟩⟩ (l.take (k + 1)) = putStep Session.client ⟨id, num, ⟨xe, xr, xb, xl, xz⟩⟩ (accS ⟨id, num, ⟨xe, xr, xb, xl, xz⟩⟩ (l.take k)) l[k]) := fun k hk => by
        unfold accS; rw [List.take_succ_eq_append_getElem hk, List.foldl_append]; rfl
      have HLEN : Hid (∀ k, k ≤ l.length → (accS ⟨id, num, ⟨xe, xr, xb, xl, xz⟩⟩ (l.take k)).1.length ≤ k * 2) := fun k hk => by
        have := accS_len ⟨id, num, ⟨xe, xr, xb, xl, xz⟩⟩ (l.take k) ([], false)
        rw [List.length_take, Nat.min_eq_left hk] at this; simpa using this
      have HBX : Hid (∀ w3 w' : World, Below (World.alloc w3 (.cells (Session.cells ⟨id, num, ⟨xe, xr, xb, xl, xz⟩⟩).toArray 44)).heap.size (World.alloc w3 (.cells (Session.cells ⟨id, num, ⟨xe, xr, xb, xl, xz⟩⟩).toArray 44)) w' → w'.rangeAt w3.heap.size 0 (Session.cells ⟨id, num, ⟨xe, xr, xb, xl, xz⟩⟩)) := fun w3 w' hb => box_range hb
      go_enter Try.func15, Try.ntmps15
      go_wp2_with (first
        | (go_at_call 19; ((with_reducible refine (refmay_ses l _ _ _ _ _ _ rfl hm (LRow.below hr (by repeat' (first | (with_reducible exact Below.refl _ _) | (with_reducible assumption) | (with_reducible refine Below.drew ?_) | (with_reducible refine Below.more ?_ _) | (with_reducible refine Below.put ?_ ?_ _) | (with_reducible refine Below.next ?_ (by with_reducible assumption)) | (with_reducible exact Nat.le_refl _) | (with_reducible refine Below.size' ?_) | omega)))).mono ?_); rw [HS.out]; rintro e w2 ⟨rfl, hb⟩))
        | (go_at_call 13; ((with_reducible refine (reflast_ses l _ _ _ _ _ rfl (by omega) (LRow.below hr (by repeat' (first | (with_reducible exact Below.refl _ _) | (with_reducible assumption) | (with_reducible refine Below.drew ?_) | (with_reducible refine Below.more ?_ _) | (with_reducible refine Below.put ?_ ?_ _) | (with_reducible refine Below.next ?_ (by with_reducible assumption)) | (with_reducible exact Nat.le_refl _) | (with_reducible refine Below.size' ?_) | omega)))).mono ?_); rw [HLA.out]; rintro e w3 ⟨rfl, hb3⟩; have qx3 : Below (World.alloc w (.cells #[.int .i64 xe, .int .i64 xr, .int .i64 xb, .int .i64 xl, .int .i64 xz] 26)).heap.size (World.alloc w (.cells #[.int .i64 xe, .int .i64 xr, .int .i64 xb, .int .i64 xl, .int .i64 xz] 26)) w3 := (by repeat' (first | (with_reducible exact Below.refl _ _) | (with_reducible assumption) | (with_reducible refine Below.drew ?_) | (with_reducible refine Below.more ?_ _) | (with_reducible refine Below.put ?_ ?_ _) | (with_reducible refine Below.next ?_ (by with_reducible assumption)) | (with_reducible exact Nat.le_refl _) | (with_reducible refine Below.size' ?_) | omega)); have hx3 := own_cells qx3; have zx3 := own_frozen qx3; have sx3 := Below.boxed qx3; clear qx3)))
      have hb3w : Below w.heap.size w w3 := (by repeat' (first | (with_reducible exact Below.refl _ _) | (with_reducible assumption) | (with_reducible refine Below.drew ?_) | (with_reducible refine Below.more ?_ _) | (with_reducible refine Below.put ?_ ?_ _) | (with_reducible refine Below.next ?_ (by with_reducible assumption)) | (with_reducible exact Nat.le_refl _) | (with_reducible refine Below.size' ?_) | omega))
      have hz3 := hb3w.size
      go_loopw [10, 12, 13] (fun so sd si wr => ∃ k : Nat, ∃ a' c', k ≤ l.length ∧ si = .int .i64 k ∧ so = .slice a' (accS ⟨id, num, ⟨xe, xr, xb, xl, xz⟩⟩ (l.take k)).1.length c' ∧ sd = .bool (accS ⟨id, num, ⟨xe, xr, xb, xl, xz⟩⟩ (l.take k)).2 ∧
        Hid (wr.ownsRow (w3.heap.size + 1) 44 laySes.size (.slice a' (accS ⟨id, num, ⟨xe, xr, xb, xl, xz⟩⟩ (l.take k)).1.length c') (accS ⟨id, num, ⟨xe, xr, xb, xl, xz⟩⟩ (l.take k)).1.length ((accS ⟨id, num, ⟨xe, xr, xb, xl, xz⟩⟩ (l.take k)).1.flatMap laySes.cells)) ∧
        Hid (Below (World.alloc w3 (.cells (Session.cells ⟨id, num, ⟨xe, xr, xb, xl, xz⟩⟩).toArray 44)).heap.size (World.alloc w3 (.cells (Session.cells ⟨id, num, ⟨xe, xr, xb, xl, xz⟩⟩).toArray 44)) wr)) (fun _ _ si _ => l.length - (intOf si).toNat)
      case atStart => exact ⟨0, none, 0, by omega, rfl, rfl, rfl, World.ownsRow_nil _ _ _ _, Below.refl _ _⟩
      case round =>
        obtain ⟨k, a', c', hk, rfl, rfl, rfl, HOWN, HBR⟩ := hrel
        have hbw : Below w.heap.size w wr := (hb3w.alloc hz3 _).trans (HBR.out.mono (by simp; omega))
        have hzr := HBR.out.size
        by_cases hlt : k < l.length
        · have hlen0 := HLEN.out k hk
          obtain ⟨b, o, rfl, hcs⟩ := LRow.range hr hlt
          have HY := Lib.hid hcs
          have HST := Lib.hid (HSTEP.out k hlt)
          have HX := Lib.hid (HBX.out w3 wr HBR.out)
          generalize hacc : accS ⟨id, num, ⟨xe, xr, xb, xl, xz⟩⟩ (l.take k) = acc at HOWN hlen0 HST ⊢
          clear hacc hcs
          obtain ⟨out, dn⟩ := acc
          simp only at hlen0
          generalize hyy : l[k] = y at HY HST
          clear hyy
          have HYR := Lib.hid (HY.out wr hbw)
          obtain ⟨hy0, _⟩ := cellsSes HYR.out
          have hy0' : wr.cell? ⟨b, o + k * 7, none⟩ = some (.int .i64 y.client) := hy0
          clear hy0
          have hB0 : w3.heap.size + 1 ≤ wr.heap.size := by simp at hzr; omega
          have hB1 : w.heap.size ≤ w3.heap.size + 1 := by omega
          have hby0 : (out.length + 1) * laySes.bytes ≤ 140737488355328 := by show (out.length + 1) * 56 ≤ _; omega
          have hby1 : (out.length + 1 + 1) * laySes.bytes ≤ 140737488355328 := by show (out.length + 1 + 1) * 56 ≤ _; omega
          have hsz : (World.alloc w3 (.cells (Session.cells ⟨id, num, ⟨xe, xr, xb, xl, xz⟩⟩).toArray 44)).heap.size = w3.heap.size + 1 := by simp
          have HSZ := Lib.hid hsz
          clear hsz
          cases dn with
          | false =>
            by_cases h1 : id ≤ y.client
            · have g1 : decide (id ≤ y.client) = true := decide_eq_true h1
              by_cases h2 : y.client = id
              · have g2 : (y.client != id) = false := by simp [h2]
                have HNX : Hid (accS ⟨id, num, ⟨xe, xr, xb, xl, xz⟩⟩ (l.take (k + 1)) = (out ++ [⟨id, num, ⟨xe, xr, xb, xl, xz⟩⟩], true)) := by show _ = _; rw [HST.out]; simp [putStep, h1, h2]
                clear h2
                go_wp2_with (first
            | (refine wpList_load_as laySes rfl (.tmp 11) rfl w3.heap.size 0 rfl ⟨id, num, ⟨xe, xr, xb, xl, xz⟩⟩ (Session.agg ⟨id, num, ⟨xe, xr, xb, xl, xz⟩⟩) rfl HX.out ?_)
            | (at_builtin; refine wpList_app1 laySes Try.underlying22 rfl (.tmp 45) (.tmp 47) rfl (w3.heap.size + 1) a' out.length c' out rfl HOWN.out ⟨id, num, ⟨xe, xr, xb, xl, xz⟩⟩ rfl rfl hby0 hB0 ?_; intro a2 c2 w4 hown4 hb4; have HOWN4 := Lib.hid hown4; have hB4 := hb4.size; have HY4 := Lib.hid (HY.out w4 (hbw.trans (hb4.mono hB1))); have hy4 : w4.cell? ⟨b, o + k * 7, none⟩ = some (.int .i64 y.client) := (cellsSes HY4.out).1; clear hown4))
                go_roundw
                case rel => exact ⟨k + 1, a2, c2, by omega, by go_num, by rw [HNX.out]; simp, by rw [HNX.out], by rw [HNX.out]; have := HOWN4.out; rw [List.length_append]; exact this, HBR.out.trans (by rw [HSZ.out]; exact hb4)⟩
                case measure => simp [intOf]; omega
              · have g2 : (y.client != id) = true := by simpa using h2
                have HNX : Hid (accS ⟨id, num, ⟨xe, xr, xb, xl, xz⟩⟩ (l.take (k + 1)) = ((out ++ [⟨id, num, ⟨xe, xr, xb, xl, xz⟩⟩]) ++ [y], true)) := by show _ = _; rw [HST.out]; simp [putStep, h1, h2]
                clear h2
                go_wp2_with (first
            | (refine wpList_load_as laySes rfl (.tmp 11) rfl w3.heap.size 0 rfl ⟨id, num, ⟨xe, xr, xb, xl, xz⟩⟩ (Session.agg ⟨id, num, ⟨xe, xr, xb, xl, xz⟩⟩) rfl HX.out ?_)
            | (at_builtin; refine wpList_app1 laySes Try.underlying22 rfl (.tmp 45) (.tmp 47) rfl (w3.heap.size + 1) a' out.length c' out rfl HOWN.out ⟨id, num, ⟨xe, xr, xb, xl, xz⟩⟩ rfl rfl hby0 hB0 ?_; intro a2 c2 w4 hown4 hb4; have HOWN4 := Lib.hid hown4; have hB4 := hb4.size; have HY4 := Lib.hid (HY.out w4 (hbw.trans (hb4.mono hB1))); have hy4 : w4.cell? ⟨b, o + k * 7, none⟩ = some (.int .i64 y.client) := (cellsSes HY4.out).1; clear hown4)
            | (refine wpList_load_as laySes rfl (.tmp 59) rfl b (o + k * 7) rfl y y.agg rfl HY4.out ?_)
            | (at_builtin; refine wpList_app1 laySes Try.underlying22 rfl (.tmp 56) (.tmp 61) rfl (w3.heap.size + 1) a2 (out.length + 1) c2 (out ++ [⟨id, num, ⟨xe, xr, xb, xl, xz⟩⟩]) rfl HOWN4.out y rfl rfl hby1 (by omega) ?_; intro a5 c5 w5 hown5 hb5; have HOWN5 := Lib.hid hown5; clear hown5))
                go_roundw
                case rel => exact ⟨k + 1, a5, c5, by omega, by go_num, by rw [HNX.out]; simp, by rw [HNX.out], by rw [HNX.out]; have := HOWN5.out; rw [List.length_append, List.length_append]; exact this, HBR.out.trans (by rw [HSZ.out]; exact hb4.trans hb5)⟩
                case measure => simp [intOf]; omega
            · have g1 : decide (id ≤ y.client) = false := decide_eq_false h1
              have h2 : ¬ y.client = id := by omega
              have g2 : (y.client != id) = true := by simpa using h2
              have HNX : Hid (accS ⟨id, num, ⟨xe, xr, xb, xl, xz⟩⟩ (l.take (k + 1)) = (out ++ [y], false)) := by show _ = _; rw [HST.out]; simp [putStep, h1, h2]
              clear h2
              go_wp2_with (first
            | (refine wpList_load_as laySes rfl (.tmp 59) rfl b (o + k * 7) rfl y y.agg rfl HYR.out ?_)
            | (at_builtin; refine wpList_app1 laySes Try.underlying22 rfl (.tmp 56) (.tmp 61) rfl (w3.heap.size + 1) a' out.length c' out rfl HOWN.out y rfl rfl hby0 hB0 ?_; intro a5 c5 w5 hown5 hb5; have HOWN5 := Lib.hid hown5; clear hown5))
              go_roundw
              case rel => exact ⟨k + 1, a5, c5, by omega, by go_num, by rw [HNX.out]; simp, by rw [HNX.out], by rw [HNX.out]; have := HOWN5.out; rw [List.length_append]; exact this, HBR.out.trans (by rw [HSZ.out]; exact hb5)⟩
              case measure => simp [intOf]; omega
          | true =>
            by_cases h2 : y.client = id
            · have g2 : (y.client != id) = false := by simp [h2]
              have HNX : Hid (accS ⟨id, num, ⟨xe, xr, xb, xl, xz⟩⟩ (l.take (k + 1)) = (out, true)) := by show _ = _; rw [HST.out]; simp [putStep, h2]
              clear h2
              go_wp2
              go_roundw
              case rel => exact ⟨k + 1, a', c', by omega, by go_num, by rw [HNX.out], by rw [HNX.out], by rw [HNX.out]; exact HOWN.out, HBR.out⟩
              case measure => simp [intOf]; omega
            · have g2 : (y.client != id) = true := by simpa using h2
              have HNX : Hid (accS ⟨id, num, ⟨xe, xr, xb, xl, xz⟩⟩ (l.take (k + 1)) = (out ++ [y], true)) := by show _ = _; rw [HST.out]; simp [putStep, h2]
              clear h2
              go_wp2_with (first
            | (refine wpList_load_as laySes rfl (.tmp 59) rfl b (o + k * 7) rfl y y.agg rfl HYR.out ?_)
            | (at_builtin; refine wpList_app1 laySes Try.underlying22 rfl (.tmp 56) (.tmp 61) rfl (w3.heap.size + 1) a' out.length c' out rfl HOWN.out y rfl rfl hby0 hB0 ?_; intro a5 c5 w5 hown5 hb5; have HOWN5 := Lib.hid hown5; clear hown5))
              go_roundw
              case rel => exact ⟨k + 1, a5, c5, by omega, by go_num, by rw [HNX.out]; simp, by rw [HNX.out], by rw [HNX.out]; have := HOWN5.out; rw [List.length_append]; exact this, HBR.out.trans (by rw [HSZ.out]; exact hb5)⟩
              case measure => simp [intOf]; omega
        · obtain rfl : k = l.length := by omega
          rw [List.take_length] at HOWN
          have HTK : Hid (l.take l.length = l) := List.take_length
          have HP2 : Hid (insK Session.client ⟨id, num, ⟨xe, xr, xb, xl, xz⟩⟩ l = if (accS ⟨id, num, ⟨xe, xr, xb, xl, xz⟩⟩ l).2 then (accS ⟨id, num, ⟨xe, xr, xb, xl, xz⟩⟩ l).1 else (accS ⟨id, num, ⟨xe, xr, xb, xl, xz⟩⟩ l).1 ++ [⟨id, num, ⟨xe, xr, xb, xl, xz⟩⟩]) := HPR.out.symm
          have hlen0 := HLEN.out l.length (Nat.le_refl _)
          rw [List.take_length] at hlen0
          rw [HTK.out]
          generalize hacc : accS ⟨id, num, ⟨xe, xr, xb, xl, xz⟩⟩ l = acc at HOWN HP2 hlen0 ⊢
          clear hacc
          obtain ⟨out, dn⟩ := acc
          have hB0 : w3.heap.size + 1 ≤ wr.heap.size := by simp at hzr; omega
          have hby0 : (out.length + 1) * laySes.bytes ≤ 140737488355328 := by simp only at hlen0; show (out.length + 1) * 56 ≤ _; omega
          have HX := Lib.hid (HBX.out w3 wr HBR.out)
          have hB1 : w.heap.size ≤ w3.heap.size + 1 := by omega
          simp only at HOWN
          cases dn with
          | true =>
            have HO : Hid (res = (out, 0)) := by show _ = _; rw [HA.out, HP2.out]; simp
            obtain ⟨q1, q2, q3, q4⟩ := own_full HOWN.out
            go_wp2
            go_returns
            exact ⟨a', c', by rw [HO.out]; rfl, by rw [HO.out]; exact q1, q2, q3, by rw [HO.out]; exact q4, hbw⟩
          | false =>
            have HO : Hid (res = (out ++ [⟨id, num, ⟨xe, xr, xb, xl, xz⟩⟩], 0)) := by show _ = _; rw [HA.out, HP2.out]; simp
            go_wp2_with (first
            | (refine wpList_load_as laySes rfl (.tmp 11) rfl w3.heap.size 0 rfl ⟨id, num, ⟨xe, xr, xb, xl, xz⟩⟩ (Session.agg ⟨id, num, ⟨xe, xr, xb, xl, xz⟩⟩) rfl HX.out ?_)
            | (at_builtin; refine wpList_app1 laySes Try.underlying22 rfl (.tmp 65) (.tmp 67) rfl (w3.heap.size + 1) a' out.length c' out rfl HOWN.out ⟨id, num, ⟨xe, xr, xb, xl, xz⟩⟩ rfl rfl hby0 hB0 ?_; intro a2 c2 w4 hown4 hb4; have HOWN4 := Lib.hid hown4; clear hown4))
            go_returns
            obtain ⟨q1, q2, q3, q4⟩ := own_full HOWN4.out
            exact ⟨a2, c2, by rw [HO.out]; simp, by rw [HO.out]; simpa using q1, q2, q3, by rw [HO.out]; exact q4, hbw.trans (hb4.mono hB1)⟩
end Go.Proofs.Ytnebibflmlgbbaa
