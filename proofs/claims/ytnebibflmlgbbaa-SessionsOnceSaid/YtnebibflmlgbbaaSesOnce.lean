import Derived.Test.YtnebibflmlgbbaaSesLaws
import Derived.Laws.BitsLemmas
namespace Go.Proofs.Ytnebibflmlgbbaa
open Go.ChangeShapes Go.WideShapes Go.ChangeAt Go.RowKit Go.Maps

structure OnceInv (l : List Session) (fd : Int × Int → Option Int) (fl : Int → Option Int) : Prop where
  ok : sessOk l = true
  last : ∀ c, 1 ≤ c → c ≤ 4 → (fl c).getD 0 = (findS l c).1.number
  new : ∀ c n, 1 ≤ c → c ≤ 4 → (findS l c).1.number < n → fd (c, n) = none
  was : ∀ c, 1 ≤ c → c ≤ 4 → 1 ≤ (findS l c).1.number → fd (c, (findS l c).1.number) = some (findS l c).1.answer.size

theorem OnceInv.start : OnceInv [] (fun _ => none) (fun _ => none) where
  ok := rfl
  last _ _ _ := rfl
  new _ _ _ _ _ := rfl
  was c _ _ h := by simp [findS, findK, zeroS] at h
theorem mayS_mk {l : List Session} {c n : Int} (h : sessOk l = true) (h1 : 1 ≤ c) (h2 : c ≤ 16) (h3 : 1 ≤ n) : mayS l c n = true := by simp [mayS, h, h1, h2, h3]
theorem OnceInv.next {l : List Session} {fd : Int × Int → Option Int} {fl : Int → Option Int} (h : OnceInv l fd fl) {c n z : Int} (h1 : 1 ≤ c) (h2 : c ≤ 4) (h3 : 1 ≤ n) (hn : (findS l c).1.number < n) :
    keepS l c n ⟨0, 0, 0, 0, z⟩ = (insK Session.client ⟨c, n, ⟨0, 0, 0, 0, z⟩⟩ l, 0) ∧ sessOk (insK Session.client ⟨c, n, ⟨0, 0, 0, 0, z⟩⟩ l) = true ∧
    OnceInv (insK Session.client ⟨c, n, ⟨0, 0, 0, 0, z⟩⟩ l) (upd fd (c, n) z) (upd fl c n) := by
  have hm := mayS_mk (c := c) (n := n) h.ok h1 (by omega) h3
  have hk : keepS l c n ⟨0, 0, 0, 0, z⟩ = (insK Session.client ⟨c, n, ⟨0, 0, 0, 0, z⟩⟩ l, 0) := by
    unfold keepS
    rw [hm, if_neg (by simp), if_neg]
    unfold lastS
    rw [if_pos h.ok]; omega
  have hg : sesGood (⟨c, n, ⟨0, 0, 0, 0, z⟩⟩ : Session) = true := by simp [sesGood]; omega
  have h5 : sessOk (insK Session.client ⟨c, n, ⟨0, 0, 0, 0, z⟩⟩ l) = true := chainOk_insK h.ok (show (0 : Int) < c by omega) hg
  have hpw := (chainOk_iff.1 h.ok).2
  have hf : findS (insK Session.client ⟨c, n, ⟨0, 0, 0, 0, z⟩⟩ l) c = (⟨c, n, ⟨0, 0, 0, 0, z⟩⟩, true) := by
    have := find_insK_self (key := Session.client) (x := (⟨c, n, ⟨0, 0, 0, 0, z⟩⟩ : Session)) l hpw
    unfold findS; rw [this]
  have hfo : ∀ o, o ≠ c → findS (insK Session.client ⟨c, n, ⟨0, 0, 0, 0, z⟩⟩ l) o = findS l o := fun o ho => by
    unfold findS; rw [find_insK_other (key := Session.client) (x := (⟨c, n, ⟨0, 0, 0, 0, z⟩⟩ : Session)) (fun h => ho h.symm)]
  refine ⟨hk, h5, h5, fun o ho1 ho2 => ?_, fun o m ho1 ho2 hlt => ?_, fun o ho1 ho2 hpos => ?_⟩
  · unfold upd
    by_cases e : o = c
    · subst e; rw [if_pos rfl, hf]; rfl
    · rw [if_neg e, hfo o e]; exact h.last o ho1 ho2
  · unfold upd
    by_cases e : o = c
    · subst e
      rw [hf] at hlt
      simp only at hlt
      rw [if_neg (by intro h; simp at h; omega)]
      exact h.new o m ho1 ho2 (by omega)
    · rw [hfo o e] at hlt
      rw [if_neg (by intro h; simp at h; exact e h.1)]
      exact h.new o m ho1 ho2 hlt
  · unfold upd
    by_cases e : o = c
    · subst e; rw [hf, if_pos rfl]
    · rw [hfo o e] at hpos ⊢
      rw [if_neg (by intro h; simp at h; exact e h.1)]
      exact h.was o ho1 ho2 hpos
theorem OnceInv.ask {l : List Session} {fd : Int × Int → Option Int} {fl : Int → Option Int} (h : OnceInv l fd fl) {c n : Int} (h1 : 1 ≤ c) (h2 : c ≤ 4) (h3 : 1 ≤ n) :
    (n < (fl c).getD 0 ∧ askS l c n = (Ans.err 0, false, 150)) ∨ (n = (fl c).getD 0 ∧ ∃ a : Ans, askS l c n = (a, false, 0) ∧ fd (c, n) = some a.size) ∨
    ((fl c).getD 0 < n ∧ askS l c n = (Ans.err 0, true, 0) ∧ fd (c, n) = none ∧ (findS l c).1.number < n) := by
  have hm := mayS_mk (c := c) (n := n) h.ok h1 (by omega) h3
  have hl := h.last c h1 h2
  unfold askS
  rw [hm, if_neg (by simp), hl]
  by_cases e1 : n < (findS l c).1.number
  · exact .inl ⟨e1, by rw [if_pos e1]⟩
  · rw [if_neg e1]
    by_cases e2 : n = (findS l c).1.number
    · refine .inr (.inl ⟨e2, (findS l c).1.answer, by rw [if_pos e2], ?_⟩)
      rw [e2]; exact h.was c h1 h2 (by omega)
    · rw [if_neg e2]
      exact .inr (.inr ⟨by omega, rfl, h.new c n h1 h2 (by omega), by omega⟩)

def keyPair : KeyKind Try.prog 40 (Int × Int) where
  keyed := Keyed.of_law (deep_law_laid (by kernel_rfl) (m := 20) (by omega) (of_decide_eq_true (by kernel_rfl)) (by kernel_rfl) (by kernel_rfl))
  enc p := .agg #[.int .i64 p.1, .int .i64 p.2]
  kl p := .string (keyBytes [.int .i64 p.1, .int .i64 p.2])
  good p := (Lit.int .i64 p.1).wf = true ∧ (Lit.int .i64 p.2).wf = true
  key p h := WideMaps.keyOf_pair ⟨Try.underlying40, by kernel_rfl, by kernel_rfl, by kernel_rfl⟩ Try.underlying3 ⟨Try.prog.types.size - 1, by kernel_rfl⟩ h.1 h.2
  inj x y h := by simp at h; exact Prod.ext h.1 h.2
noncomputable def keyInt : KeyKind Try.prog 3 Int := intKey Try.underlying3
theorem i64_and3 (n : Int) : bits .and .i64 n 3 = n % 4 := by
  have hm : (BitVec.ofInt 64 3).toNat = 2 ^ 2 - 1 := by decide
  have key : (BitVec.ofInt 64 n &&& BitVec.ofInt 64 3).toNat = (n % ((2 ^ 64 : Nat) : Int)).toNat % 2 ^ 2 := by
    rw [BitVec.toNat_and, BitVec.toNat_ofInt, hm, Nat.and_two_pow_sub_one_eq_mod]
  show IntKind.i64.wrap ((BitVec.ofInt 64 n &&& BitVec.ofInt 64 3).toNat : Nat) = n % 4
  rw [key, IntKind.wrap_i64]
  omega
theorem i64_and7 (n : Int) : bits .and .i64 n 7 = n % 8 := by
  have hm : (BitVec.ofInt 64 7).toNat = 2 ^ 3 - 1 := by decide
  have key : (BitVec.ofInt 64 n &&& BitVec.ofInt 64 7).toNat = (n % ((2 ^ 64 : Nat) : Int)).toNat % 2 ^ 3 := by
    rw [BitVec.toNat_and, BitVec.toNat_ofInt, hm, Nat.and_two_pow_sub_one_eq_mod]
  show IntKind.i64.wrap ((BitVec.ofInt 64 n &&& BitVec.ofInt 64 7).toNat : Nat) = n % 8
  rw [key, IntKind.wrap_i64]
  omega

set_option maxHeartbeats 8000000 in
set_option maxRecDepth 100000 in
theorem law_once (a b : Option Addr) (xs ys : List Int) (n c m d : Nat) (w : World) (hn : xs.length = n) (hm : ys.length = m) (hl : n ≤ maxLen) (hl2 : m ≤ maxLen) (hr : Row w a (xs.map (Value.int .i64))) (hs : Row w b (ys.map (Value.int .i64))) :
    Calls Try.prog 5 #[.slice a n c, .slice b m d] w fun e w' => e = .returned (.bool true) ∧ Below w.heap.size w w' := by
  subst hn; subst hm
  have hl3 := lt_maxLen hl
  have hl4 := lt_maxLen hl2
  by_cases hg : 200 < xs.length ∨ ys.length < xs.length
  · have HW : ∀ w, Calls Try.prog 7 #[] w fun e w' => e = .returned (.bool true) ∧ Below w.heap.size w w' := wakes_ses
    have HWW := Lib.hid HW
    clear HW
    rcases Nat.lt_or_ge 200 xs.length with h1 | h1
    · clear hg
      go_enter Try.func5, Try.ntmps5
      go_wp2_with (go_at_call 7; ((with_reducible refine (HWW.out _).mono ?_); rintro e w2 ⟨rfl, hb2⟩))
      go_returns
      exact ⟨rfl, (by repeat' (first | (with_reducible exact Below.refl _ _) | (with_reducible assumption) | (with_reducible refine Below.drew ?_) | (with_reducible refine Below.more ?_ _) | (with_reducible refine Below.put ?_ ?_ _) | (with_reducible refine Below.next ?_ (by with_reducible assumption)) | (with_reducible exact Nat.le_refl _) | (with_reducible refine Below.size' ?_) | omega))⟩
    · have h2 : ys.length < xs.length := by omega
      clear hg
      go_enter Try.func5, Try.ntmps5
      go_wp2_with (go_at_call 7; ((with_reducible refine (HWW.out _).mono ?_); rintro e w2 ⟨rfl, hb2⟩))
      go_returns
      exact ⟨rfl, (by repeat' (first | (with_reducible exact Below.refl _ _) | (with_reducible assumption) | (with_reducible refine Below.drew ?_) | (with_reducible refine Below.more ?_ _) | (with_reducible refine Below.put ?_ ?_ _) | (with_reducible refine Below.next ?_ (by with_reducible assumption)) | (with_reducible exact Nat.le_refl _) | (with_reducible refine Below.size' ?_) | omega))⟩
  · have h1 : xs.length ≤ 200 := by omega
    have h2 : xs.length ≤ ys.length := by omega
    have hd1 : decide ((200 : Int) < (xs.length : Int)) = false := decide_eq_false (by omega)
    have hd2 : decide (ys.length < xs.length) = false := decide_eq_false (by omega)
    clear hg
    have hmm := @run_makeMap Try.prog
    go_enter Try.func5, Try.ntmps5
    go_wp2
    go_loopw [5, 33] (fun sl si wr => ∃ k : Nat, ∃ l a' c' fd fl, k ≤ xs.length ∧ si = .int .i64 k ∧ sl = .slice a' (List.length l) c' ∧ l.length ≤ c' ∧ (a' = none → c' = 0) ∧ l.length ≤ k ∧ Hid (LRow laySes wr a' l) ∧ Hid (OnceInv l fd fl) ∧ Hid (MapI keyPair 3 wr w.heap.size k fd) ∧ Hid (MapI keyInt 3 wr (w.heap.size + 1) k fl) ∧ Below w.heap.size w wr) (fun _ si _ => xs.length - (intOf si).toNat)
    case atStart => exact ⟨0, [], none, 0, _, _, by omega, rfl, rfl, by simp, fun _ => rfl, by simp, Row.nil _ _, OnceInv.start, (MapI.made w).alloc _, by have := MapI.made (K := keyInt) (e := 3) (w.alloc (.map #[] 0)); simp at this; exact this, (by repeat' (first | (with_reducible exact Below.refl _ _) | (with_reducible assumption) | (with_reducible refine Below.drew ?_) | (with_reducible refine Below.more ?_ _) | (with_reducible refine Below.put ?_ ?_ _) | (with_reducible refine Below.next ?_ (by with_reducible assumption)) | (with_reducible exact Nat.le_refl _) | (with_reducible refine Below.size' ?_) | omega))⟩
    case round =>
      obtain ⟨k, l, a', c', fd, fl, hk, rfl, rfl, hlc, hnil, hlk, HR, HI, HD, HL, hb⟩ := hrel
      by_cases hlt : k < xs.length
      · have hxk : (xs.map (Value.int .i64))[k]? = some (.int .i64 xs[k]) := by rw [List.getElem?_map, List.getElem?_eq_getElem hlt]; rfl
        have hyk : (ys.map (Value.int .i64))[k]? = some (.int .i64 (ys[k]'(by omega))) := by rw [List.getElem?_map, List.getElem?_eq_getElem (by omega)]; rfl
        obtain ⟨b1, o1, rfl, hc1⟩ := Row.getBelow hr hxk
        obtain ⟨b2, o2, rfl, hc2⟩ := Row.getBelow hs hyk
        have hx := hc1 wr hb
        have hy := hc2 wr hb
        generalize xs[k] = x at hx
        generalize ys[k]'(by omega) = y at hy
        obtain ⟨cc, hcc⟩ : ∃ z, 1 + x % 4 = z := ⟨_, rfl⟩
        obtain ⟨nn, hnn⟩ : ∃ z, 1 + y % 8 = z := ⟨_, rfl⟩
        have hc3 : 1 ≤ cc ∧ cc ≤ 4 := by omega
        have hn3 : 1 ≤ nn ∧ nn ≤ 8 := by omega
        have e1 : bits .and .i64 x 3 = x % 4 := i64_and3 x
        have e2 : bits .and .i64 y 7 = y % 8 := i64_and7 y
        have e3 : IntKind.i64.wrap (1 + x % 4) = cc := by rw [hcc, IntKind.wrap_i64]; omega
        have e4 : IntKind.i64.wrap (1 + y % 8) = nn := by rw [hnn, IntKind.wrap_i64]; omega
        have hlt2 : (k : Int) < (ys.length : Int) := by omega
        clear hxk hyk hc1 hc2
        have HCC := Lib.hid hcc
        have HNN := Lib.hid hnn
        clear hcc hnn
        go_wp2
        go_quiet (fail)
        clear e1 e2 e3 e4 hx hy
        have q : Below wr.heap.size wr (wr.drewN nq) := below_drewN (Below.refl _ _) nq
        have HR2 : Hid (LRow laySes (wr.drewN nq) a' l) := LRow.below HR.out q
        have HD2 : Hid (MapI keyPair 3 (wr.drewN nq) w.heap.size k fd) := HD.out.below q HD.out.lt
        have HL2 : Hid (MapI keyInt 3 (wr.drewN nq) (w.heap.size + 1) k fl) := HL.out.below q HL.out.lt
        have hbd : Below w.heap.size w (wr.drewN nq) := below_drewN hb nq
        clear HR HD HL hb q
        generalize wr.drewN nq = wd at HR2 HD2 HL2 hbd ⊢
        have HWC : Hid ((Lit.int .i64 cc).wf = true) := wf_small (by omega) (by omega)
        have HWN : Hid ((Lit.int .i64 nn).wf = true) := wf_small (by omega) (by omega)
        obtain ⟨la, hla⟩ : ∃ z, (fl cc).getD 0 = z := ⟨_, rfl⟩
        have HLA := Lib.hid hla
        have hzd := HD2.out.lt
        have hzl := HL2.out.lt
        have hways := HI.out.ask hc3.1 hc3.2 hn3.1
        rw [hla] at hways
        clear hla
        rcases hways with ⟨g1, ha⟩ | ⟨g1, ans, ha, hfd⟩ | ⟨g1, ha, hfd, hgt⟩
        · have HA := Lib.hid ha
          have g2 : decide (nn < la) = true := decide_eq_true g1
          clear ha
          go_wp2_with (first
            | (go_at_call 8; ((with_reducible refine (ask_ses l _ _ _ _ _ _ rfl (by omega) (LRow.below HR2.out (by repeat' (first | (with_reducible exact Below.refl _ _) | (with_reducible assumption) | (with_reducible refine Below.drew ?_) | (with_reducible refine Below.more ?_ _) | (with_reducible refine Below.put ?_ ?_ _) | (with_reducible refine Below.next ?_ (by with_reducible assumption)) | (with_reducible exact Nat.le_refl _) | (with_reducible refine Below.size' ?_) | omega)))).mono ?_); rw [HA.out]; rintro e w2 ⟨rfl, hb2⟩))
            | (refine wpList_getI keyInt Try.underlying38 Try.underlying3 zero_int rfl (.tmp 58) (.tmp 59) rfl (w.heap.size + 1) k fl rfl (MapI.below HL2.out (by repeat' (first | (with_reducible exact Below.refl _ _) | (with_reducible assumption) | (with_reducible refine Below.drew ?_) | (with_reducible refine Below.more ?_ _) | (with_reducible refine Below.put ?_ ?_ _) | (with_reducible refine Below.next ?_ (by with_reducible assumption)) | (with_reducible exact Nat.le_refl _) | (with_reducible refine Below.size' ?_) | omega)) HL2.out.lt) cc HWC.out rfl ?_; rw [HLA.out]))
          go_roundw
          case rel => exact ⟨k + 1, l, a', c', fd, fl, by omega, by go_num, rfl, hlc, hnil, by omega, LRow.below HR2.out (by repeat' (first | (with_reducible exact Below.refl _ _) | (with_reducible assumption) | (with_reducible refine Below.drew ?_) | (with_reducible refine Below.more ?_ _) | (with_reducible refine Below.put ?_ ?_ _) | (with_reducible refine Below.next ?_ (by with_reducible assumption)) | (with_reducible exact Nat.le_refl _) | (with_reducible refine Below.size' ?_) | omega)), HI.out, (MapI.below HD2.out (by repeat' (first | (with_reducible exact Below.refl _ _) | (with_reducible assumption) | (with_reducible refine Below.drew ?_) | (with_reducible refine Below.more ?_ _) | (with_reducible refine Below.put ?_ ?_ _) | (with_reducible refine Below.next ?_ (by with_reducible assumption)) | (with_reducible exact Nat.le_refl _) | (with_reducible refine Below.size' ?_) | omega)) HD2.out.lt).mono (by omega), (MapI.below HL2.out (by repeat' (first | (with_reducible exact Below.refl _ _) | (with_reducible assumption) | (with_reducible refine Below.drew ?_) | (with_reducible refine Below.more ?_ _) | (with_reducible refine Below.put ?_ ?_ _) | (with_reducible refine Below.next ?_ (by with_reducible assumption)) | (with_reducible exact Nat.le_refl _) | (with_reducible refine Below.size' ?_) | omega)) HL2.out.lt).mono (by omega), (by repeat' (first | (with_reducible exact Below.refl _ _) | (with_reducible assumption) | (with_reducible refine Below.drew ?_) | (with_reducible refine Below.more ?_ _) | (with_reducible refine Below.put ?_ ?_ _) | (with_reducible refine Below.next ?_ (by with_reducible assumption)) | (with_reducible exact Nat.le_refl _) | (with_reducible refine Below.size' ?_) | omega))⟩
          case measure => simp [intOf]; omega
        · have HA := Lib.hid ha
          have g2 : decide (nn < la) = false := decide_eq_false (by omega)
          obtain ⟨ae, ar, ab, al, az⟩ := ans
          have HFD := Lib.hid hfd
          clear ha hfd g1
          go_wp2_with (first
            | (go_at_call 8; ((with_reducible refine (ask_ses l _ _ _ _ _ _ rfl (by omega) (LRow.below HR2.out (by repeat' (first | (with_reducible exact Below.refl _ _) | (with_reducible assumption) | (with_reducible refine Below.drew ?_) | (with_reducible refine Below.more ?_ _) | (with_reducible refine Below.put ?_ ?_ _) | (with_reducible refine Below.next ?_ (by with_reducible assumption)) | (with_reducible exact Nat.le_refl _) | (with_reducible refine Below.size' ?_) | omega)))).mono ?_); rw [HA.out]; rintro e w2 ⟨rfl, hb2⟩))
            | (refine wpList_getI keyInt Try.underlying38 Try.underlying3 zero_int rfl (.tmp 58) (.tmp 59) rfl (w.heap.size + 1) k fl rfl (MapI.below HL2.out (by repeat' (first | (with_reducible exact Below.refl _ _) | (with_reducible assumption) | (with_reducible refine Below.drew ?_) | (with_reducible refine Below.more ?_ _) | (with_reducible refine Below.put ?_ ?_ _) | (with_reducible refine Below.next ?_ (by with_reducible assumption)) | (with_reducible exact Nat.le_refl _) | (with_reducible refine Below.size' ?_) | omega)) HL2.out.lt) cc HWC.out rfl ?_; rw [HLA.out])
            | (refine wpList_getOkI keyPair Try.underlying37 Try.underlying3 zero_int rfl (.tmp 71) (.tmp 74) rfl w.heap.size k fd rfl (MapI.below HD2.out (by repeat' (first | (with_reducible exact Below.refl _ _) | (with_reducible assumption) | (with_reducible refine Below.drew ?_) | (with_reducible refine Below.more ?_ _) | (with_reducible refine Below.put ?_ ?_ _) | (with_reducible refine Below.next ?_ (by with_reducible assumption)) | (with_reducible exact Nat.le_refl _) | (with_reducible refine Below.size' ?_) | omega)) HD2.out.lt) (cc, nn) ⟨HWC.out, HWN.out⟩ rfl ?_; rw [HFD.out]))
          go_roundw
          case rel => exact ⟨k + 1, l, a', c', fd, fl, by omega, by go_num, rfl, hlc, hnil, by omega, LRow.below HR2.out (by repeat' (first | (with_reducible exact Below.refl _ _) | (with_reducible assumption) | (with_reducible refine Below.drew ?_) | (with_reducible refine Below.more ?_ _) | (with_reducible refine Below.put ?_ ?_ _) | (with_reducible refine Below.next ?_ (by with_reducible assumption)) | (with_reducible exact Nat.le_refl _) | (with_reducible refine Below.size' ?_) | omega)), HI.out, (MapI.below HD2.out (by repeat' (first | (with_reducible exact Below.refl _ _) | (with_reducible assumption) | (with_reducible refine Below.drew ?_) | (with_reducible refine Below.more ?_ _) | (with_reducible refine Below.put ?_ ?_ _) | (with_reducible refine Below.next ?_ (by with_reducible assumption)) | (with_reducible exact Nat.le_refl _) | (with_reducible refine Below.size' ?_) | omega)) HD2.out.lt).mono (by omega), (MapI.below HL2.out (by repeat' (first | (with_reducible exact Below.refl _ _) | (with_reducible assumption) | (with_reducible refine Below.drew ?_) | (with_reducible refine Below.more ?_ _) | (with_reducible refine Below.put ?_ ?_ _) | (with_reducible refine Below.next ?_ (by with_reducible assumption)) | (with_reducible exact Nat.le_refl _) | (with_reducible refine Below.size' ?_) | omega)) HL2.out.lt).mono (by omega), (by repeat' (first | (with_reducible exact Below.refl _ _) | (with_reducible assumption) | (with_reducible refine Below.drew ?_) | (with_reducible refine Below.more ?_ _) | (with_reducible refine Below.put ?_ ?_ _) | (with_reducible refine Below.next ?_ (by with_reducible assumption)) | (with_reducible exact Nat.le_refl _) | (with_reducible refine Below.size' ?_) | omega))⟩
          case measure => simp [intOf]; omega
        · have HA := Lib.hid ha
          have g2 : decide (nn < la) = false := decide_eq_false (by omega)
          have HFD := Lib.hid hfd
          obtain ⟨hk1, hk2, hk3⟩ := HI.out.next (z := (k : Int) + 1) hc3.1 hc3.2 hn3.1 hgt
          have hil := insK_length (key := Session.client) ⟨cc, nn, ⟨0, 0, 0, 0, (k : Int) + 1⟩⟩ l
          generalize insK Session.client ⟨cc, nn, ⟨0, 0, 0, 0, (k : Int) + 1⟩⟩ l = l2 at hk1 hk2 hk3 hil
          have HK1 := Lib.hid hk1
          have HK2 := Lib.hid hk2
          have HK3 := Lib.hid hk3
          clear ha hfd g1 hk1 hk2 hk3 hgt
          go_wp2_with (first
            | (go_at_call 8; ((with_reducible refine (ask_ses l _ _ _ _ _ _ rfl (by omega) (LRow.below HR2.out (by repeat' (first | (with_reducible exact Below.refl _ _) | (with_reducible assumption) | (with_reducible refine Below.drew ?_) | (with_reducible refine Below.more ?_ _) | (with_reducible refine Below.put ?_ ?_ _) | (with_reducible refine Below.next ?_ (by with_reducible assumption)) | (with_reducible exact Nat.le_refl _) | (with_reducible refine Below.size' ?_) | omega)))).mono ?_); rw [HA.out]; rintro e w2 ⟨rfl, hb2⟩))
            | (refine wpList_getI keyInt Try.underlying38 Try.underlying3 zero_int rfl (.tmp 58) (.tmp 59) rfl (w.heap.size + 1) k fl rfl (MapI.below HL2.out (by repeat' (first | (with_reducible exact Below.refl _ _) | (with_reducible assumption) | (with_reducible refine Below.drew ?_) | (with_reducible refine Below.more ?_ _) | (with_reducible refine Below.put ?_ ?_ _) | (with_reducible refine Below.next ?_ (by with_reducible assumption)) | (with_reducible exact Nat.le_refl _) | (with_reducible refine Below.size' ?_) | omega)) HL2.out.lt) cc HWC.out rfl ?_; rw [HLA.out])
            | (refine wpList_getOkI keyPair Try.underlying37 Try.underlying3 zero_int rfl (.tmp 71) (.tmp 74) rfl w.heap.size k fd rfl (MapI.below HD2.out (by repeat' (first | (with_reducible exact Below.refl _ _) | (with_reducible assumption) | (with_reducible refine Below.drew ?_) | (with_reducible refine Below.more ?_ _) | (with_reducible refine Below.put ?_ ?_ _) | (with_reducible refine Below.next ?_ (by with_reducible assumption)) | (with_reducible exact Nat.le_refl _) | (with_reducible refine Below.size' ?_) | omega)) HD2.out.lt) (cc, nn) ⟨HWC.out, HWN.out⟩ rfl ?_; rw [HFD.out])
            | (go_at_call 14; ((with_reducible refine (keep_ses l _ _ _ _ _ ⟨0, 0, 0, 0, (k : Int) + 1⟩ _ rfl (by omega) hnil hlc (LRow.below HR2.out (by repeat' (first | (with_reducible exact Below.refl _ _) | (with_reducible assumption) | (with_reducible refine Below.drew ?_) | (with_reducible refine Below.more ?_ _) | (with_reducible refine Below.put ?_ ?_ _) | (with_reducible refine Below.next ?_ (by with_reducible assumption)) | (with_reducible exact Nat.le_refl _) | (with_reducible refine Below.size' ?_) | omega)))).mono ?_); rw [HK1.out]; rintro e w3 ⟨a3, c3, rfl, hc3', _, hn3', hr3, hb3⟩; replace hr3 : LRow laySes w3 a3 l2 := hr3))
            | (go_at_call 10; ((with_reducible refine (check_ses l2 _ _ _ _ rfl (le_maxLen (by omega)) (LRow.below hr3 (by repeat' (first | (with_reducible exact Below.refl _ _) | (with_reducible assumption) | (with_reducible refine Below.drew ?_) | (with_reducible refine Below.more ?_ _) | (with_reducible refine Below.put ?_ ?_ _) | (with_reducible refine Below.next ?_ (by with_reducible assumption)) | (with_reducible exact Nat.le_refl _) | (with_reducible refine Below.size' ?_) | omega)))).mono ?_); rw [HK2.out]; rintro e w4 ⟨rfl, hb4⟩))
            | (refine wpList_putI keyPair Try.underlying37 Try.underlying3 rfl (.tmp 106) (.tmp 109) (.tmp 111) rfl w.heap.size k fd rfl (MapI.below HD2.out (by repeat' (first | (with_reducible exact Below.refl _ _) | (with_reducible assumption) | (with_reducible refine Below.drew ?_) | (with_reducible refine Below.more ?_ _) | (with_reducible refine Below.put ?_ ?_ _) | (with_reducible refine Below.next ?_ (by with_reducible assumption)) | (with_reducible exact Nat.le_refl _) | (with_reducible refine Below.size' ?_) | omega)) HD2.out.lt) (by unfold maxLen; omega) (cc, nn) ⟨HWC.out, HWN.out⟩ rfl ((k : Int) + 1) rfl (wf_small (by omega) (by omega)) ?_; intro w5 hm5 hg5; have HM5 := Lib.hid hm5; have HL5 := Lib.hid (MapI.grown (MapI.below HL2.out (by repeat' (first | (with_reducible exact Below.refl _ _) | (with_reducible assumption) | (with_reducible refine Below.drew ?_) | (with_reducible refine Below.more ?_ _) | (with_reducible refine Below.put ?_ ?_ _) | (with_reducible refine Below.next ?_ (by with_reducible assumption)) | (with_reducible exact Nat.le_refl _) | (with_reducible refine Below.size' ?_) | omega)) HL2.out.lt) hg5 (by omega)); have hr5 := MapI.rowFar (MapI.below HD2.out (by repeat' (first | (with_reducible exact Below.refl _ _) | (with_reducible assumption) | (with_reducible refine Below.drew ?_) | (with_reducible refine Below.more ?_ _) | (with_reducible refine Below.put ?_ ?_ _) | (with_reducible refine Below.next ?_ (by with_reducible assumption)) | (with_reducible exact Nat.le_refl _) | (with_reducible refine Below.size' ?_) | omega)) HD2.out.lt) hg5 (Row.below hr3 (by repeat' (first | (with_reducible exact Below.refl _ _) | (with_reducible assumption) | (with_reducible refine Below.drew ?_) | (with_reducible refine Below.more ?_ _) | (with_reducible refine Below.put ?_ ?_ _) | (with_reducible refine Below.next ?_ (by with_reducible assumption)) | (with_reducible exact Nat.le_refl _) | (with_reducible refine Below.size' ?_) | omega))); have hb5 : Below w.heap.size w w5 := Below.grownMore (by repeat' (first | (with_reducible exact Below.refl _ _) | (with_reducible assumption) | (with_reducible refine Below.drew ?_) | (with_reducible refine Below.more ?_ _) | (with_reducible refine Below.put ?_ ?_ _) | (with_reducible refine Below.next ?_ (by with_reducible assumption)) | (with_reducible exact Nat.le_refl _) | (with_reducible refine Below.size' ?_) | omega)) hg5 (Nat.le_refl _); clear hm5 hg5)
            | (refine wpList_putI keyInt Try.underlying38 Try.underlying3 rfl (.tmp 112) (.tmp 113) (.tmp 114) rfl (w.heap.size + 1) k fl rfl HL5.out (by unfold maxLen; omega) cc HWC.out rfl nn rfl HWN.out ?_; intro w6 hm6 hg6; have HM6 := Lib.hid hm6; have HD6 := Lib.hid (MapI.grown HM5.out hg6 (by omega)); have hr6 := MapI.rowFar HL5.out hg6 hr5; have hb6 : Below w.heap.size w w6 := Below.grownMore hb5 hg6 (by omega); clear hm6 hg6))
          go_roundw
          case rel => exact ⟨k + 1, l2, a3, c3, _, _, by omega, by go_num, rfl, hc3', hn3', by omega, hr6, HK3.out, HD6.out, HM6.out, hb6⟩
          case measure => simp [intOf]; omega
      · obtain rfl : k = xs.length := by omega
        go_wp2_with (go_at_call 7; ((with_reducible refine (wakes_ses _).mono ?_); rintro e w2 ⟨rfl, hb2⟩))
        go_returns
        exact ⟨rfl, (by repeat' (first | (with_reducible exact Below.refl _ _) | (with_reducible assumption) | (with_reducible refine Below.drew ?_) | (with_reducible refine Below.more ?_ _) | (with_reducible refine Below.put ?_ ?_ _) | (with_reducible refine Below.next ?_ (by with_reducible assumption)) | (with_reducible exact Nat.le_refl _) | (with_reducible refine Below.size' ?_) | omega))⟩
end Go.Proofs.Ytnebibflmlgbbaa
