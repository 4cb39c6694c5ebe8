import Derived.Test.YtmlpgpopaakjbaaSums
import Derived.Test.YtmlpgpopaakjbaaOpen
namespace Go.Proofs.Ytmlpgpopaakjbaa
open Go.ChangeShapes Go.WideShapes Go.ChangeAt Go.RowKit

theorem el_bytes : Elem Try.prog 22 5 1 1 where
  under := Try.underlying22
  info := by
    have h : (Try.prog.info? 5).map (fun i => (i.zero, i.size, i.bytes)) = some (some (.int .u8 0), 1, 1) := by kernel_rfl
    obtain ⟨i, hi, h0, h1, h2⟩ := info_parts h
    exact ⟨i, _, hi, h0, h1, h2, rfl⟩
  pos := by decide
  bpos := by decide
theorem bytes_one (l : List UInt8) : ∀ u ∈ l.map B, u.oneCell' = true := by
  intro u hu
  obtain ⟨x, _, rfl⟩ := List.mem_map.1 hu
  rfl
/-- Slices of bytes that lie in a row. -/
def Pieces (w : World) (a : Option Addr) (ls : List (List UInt8)) : Prop :=
  ∃ vs : List Value, Row w a vs ∧ vs.length = ls.length ∧ ∀ i (h : i < ls.length), ∃ b c, vs[i]? = some (.slice b ls[i].length c) ∧ RowB w b ls[i] ∧ ls[i].length ≤ 140737488351232

set_option maxHeartbeats 1000000 in
theorem law_pieces (a : Option Addr) (ls : List (List UInt8)) (n c : Nat) (w : World) (hn : ls.length = n) (hl : ls.length ≤ maxLen) (hr : Pieces w a ls) :
    Calls Try.prog 5 #[.slice a n c] w fun e w' => e = .returned (.bool true) ∧ Below w.heap.size w w' := by
  subst hn
  have hl2 : ls.length ≤ 9223372036854775807 := lt_maxLen hl
  clear hl
  go_enter Try.func5, Try.ntmps5
  go_wp2
  go_loopw [3, 4, 5] (fun all more i wr => ∃ k n : Nat, ∃ a' c', k ≤ ls.length ∧ i = .int .i64 k ∧ all = .slice a' n c' ∧ ((ls.take k).flatten).length = n ∧ n ≤ 20000 ∧
      more = .int .u32 (sumMore 0 (ls.take k).flatten : Nat) ∧ wr.ownsRow w.heap.size 5 1 (.slice a' n c') n ((ls.take k).flatten.map B) ∧ Below w.heap.size w wr) (fun _ _ i _ => ls.length - (intOf i).toNat)
  case atStart => exact ⟨0, 0, none, 0, by omega, rfl, rfl, rfl, by omega, val_int (by simp [sumMore_nil]), World.ownsRow_nil _ _ _ _, Below.refl _ _⟩
  case round =>
    obtain ⟨k, n, a', c', hk, rfl, rfl, hln, hn2, rfl, hown, hb⟩ := hrel
    by_cases hlt : k < ls.length
    · obtain ⟨vs, hrow, hvl, hvs⟩ := hr
      obtain ⟨pb, pc, hv, hpr, hpl⟩ := hvs k hlt
      have HF := Lib.hid (flat_take hlt)
      have HLN := Lib.hid hln
      have HPL : Hid (ls[k].length ≤ maxLen) := Nat.le_trans hpl (by decide)
      obtain ⟨b, o, rfl, hcells⟩ := hrow.getBelow hv
      have HC := Lib.hid hcells
      have HP := Lib.hid fun w2 (h : Below w.heap.size w w2) => hpr.below h
      have hcell := hcells _ hb
      clear hln hvs hrow hv hvl hcells hpr
      by_cases hbig : 20000 < n + ls[k].length
      · go_wp2_with (go_at_call 7; ((with_reducible refine (wakes_any _).mono ?_); rintro e w' ⟨rfl, hb2⟩))
        go_returns
        exact ⟨rfl, hb.trans (hb2.mono hb.size)⟩
      · by_cases hk2 : 2000 < k
        · go_wp2_with (go_at_call 7; ((with_reducible refine (wakes_any _).mono ?_); rintro e w' ⟨rfl, hb2⟩))
          go_returns
          exact ⟨rfl, hb.trans (hb2.mono hb.size)⟩
        · go_wp2_with (first
            | (at_builtin; refine wpList_app el_bytes rfl _ _ rfl w.heap.size _ n _ rfl hown pb ls[k].length pc (ls[k].map B) rfl (by simp) (HP.out _ hb) (bytes_one _) (by omega) hb.size ?_; intro a2 c2 w2 hown2 hg2; have hb2 := Below.app hb hown hg2 hb.size; have hcell2 := HC.out _ hb2; clear hcell hg2)
            | (go_at_call 10; ((with_reducible refine (more_any _ (sumMore 0 (ls.take k).flatten) _ ls[k] _ _ _ rfl rfl (sumMore_lt _ _) HPL.out (HP.out _ hb2)).mono ?_); rintro e w' ⟨rfl, rfl⟩)))
          go_roundw
          case rel => exact ⟨k + 1, n + ls[k].length, a2, c2, by omega, by go_num, rfl, by rw [HF.out, List.length_append, HLN.out], by omega, val_int (by rw [HF.out, sumMore_append]), by rw [HF.out, List.map_append]; exact hown2, hb2⟩
          case measure => simp [intOf]; omega
    · have HLN := Lib.hid hln
      clear hln
      have hrow := own_row hown
      go_wp2_with (first
        | (go_at_call 8; ((with_reducible refine (sum_any _ (ls.take k).flatten _ _ _ HLN.out (le_maxLen (by rw [HLN.out]; omega)) hrow).mono ?_); rintro e w' ⟨rfl, rfl⟩))
        | (go_at_call 7; ((with_reducible refine (wakes_any _).mono ?_); rintro e w' ⟨rfl, hb2⟩)))
      go_returns
      exact ⟨rfl, hb.trans (hb2.mono hb.size)⟩

theorem tmod_range (a p : Int) (hp : 0 < p) : -p < a.tmod p ∧ a.tmod p < p := by
  have h := Int.natAbs_tmod a p
  have h2 : a.natAbs % p.natAbs < p.natAbs := Nat.mod_lt _ (by omega)
  omega
theorem at_nat (r p : Int) (hp : 0 < p) : ∃ n : Nat, r % p = (n : Int) ∧ (n : Int) < p := by
  have h2 := Int.emod_nonneg r (show p ≠ 0 by omega)
  have h3 := Int.emod_lt_of_pos r hp
  exact ⟨(r % p).toNat, by omega, by omega⟩
theorem or_one (z : Int) (h0 : 0 ≤ z) (h1 : z < 4294967296) : ∃ n : Nat, bits .or .u32 z 1 = (n : Int) ∧ n % 2 = 1 ∧ n < 4294967296 := by
  refine ⟨z.toNat ||| 1, u32_or z 1 h0 h1 (by omega) (by omega), ?_, ?_⟩
  · have := Nat.or_mod_two_pow (a := z.toNat) (b := 1) (n := 1)
    rw [show (2 : Nat) ^ 1 = 2 from rfl] at this
    rw [this]
    rcases Nat.mod_two_eq_zero_or_one z.toNat with h | h <;> rw [h] <;> rfl
  · exact Nat.or_lt_two_pow (n := 32) (by omega) (by omega)

theorem shr_cast (bs i : Nat) : (bs : Int) / 2 ^ i = ((bs / 2 ^ i : Nat) : Int) := by simp
theorem shr_lt {bs : Nat} (i : Nat) (h : bs < 4294967296) : bs / 2 ^ i < 4294967296 := Nat.lt_of_le_of_lt (Nat.div_le_self _ _) h
theorem shr_bit (bs i : Nat) (h : bs < 4294967296) (hb : bs / 2 ^ i % 2 = 1) : bits .and .u32 ((bs : Int) / 2 ^ i) 1 = 1 := by
  rw [shr_cast]; exact u32_odd (shr_lt i h) hb
theorem shr_bit0 (bs i : Nat) (h : bs < 4294967296) (hb : bs / 2 ^ i % 2 = 0) : bits .and .u32 ((bs : Int) / 2 ^ i) 1 = 0 := by
  rw [shr_cast]; exact u32_even (shr_lt i h) hb
theorem mod_succ (bs i : Nat) : bs % 2 ^ (i + 1) = bs % 2 ^ i + 2 ^ i * (bs / 2 ^ i % 2) := Nat.mod_pow_succ
theorem mod_succ0 (bs i : Nat) (hb : bs / 2 ^ i % 2 = 0) : bs % 2 ^ (i + 1) = bs % 2 ^ i := by rw [mod_succ, hb]; simp
theorem mod_succ1 (bs i : Nat) (hb : bs / 2 ^ i % 2 = 1) : bs % 2 ^ (i + 1) = bs % 2 ^ i ^^^ 2 ^ i := by
  have h := Nat.mod_lt bs (Nat.two_pow_pos i)
  rw [mod_succ, hb, Nat.mul_one]
  generalize bs % 2 ^ i = x at h
  apply Nat.eq_of_testBit_eq
  intro j
  rw [Nat.testBit_xor, Nat.testBit_two_pow, Nat.add_comm]
  rcases Nat.lt_trichotomy j i with hj | rfl | hj
  · rw [Nat.testBit_two_pow_add_gt hj, decide_eq_false (by omega)]; simp
  · rw [Nat.testBit_two_pow_add_eq, decide_eq_true rfl]; simp
  · have h1 : 2 ^ i + x < 2 ^ j := by
      have : 2 ^ (i + 1) ≤ 2 ^ j := Nat.pow_le_pow_right (by omega) hj
      rw [Nat.pow_succ] at this; omega
    rw [Nat.testBit_lt_two_pow h1, Nat.testBit_lt_two_pow (show x < 2 ^ j by omega), decide_eq_false (by omega)]; rfl
theorem u8_pow (c : UInt8) {m : Nat} (hm : m < 8) : bits .xor .u8 (c.toNat : Int) (2 ^ m % 256) = (((c ^^^ UInt8.ofNat (2 ^ m)).toNat : Nat) : Int) ∧ (UInt8.ofNat (2 ^ m)).toNat = 2 ^ m := by
  have hp : 2 ^ m < 256 := Nat.lt_of_lt_of_le (Nat.pow_lt_pow_right (by omega) hm) (by decide)
  have h2 : (UInt8.ofNat (2 ^ m)).toNat = 2 ^ m := by rw [UInt8.toNat_ofNat', Nat.mod_eq_of_lt hp]
  refine ⟨?_, h2⟩
  rw [UInt8.toNat_xor, h2, show ((2 : Int) ^ m % 256) = ((2 ^ m : Nat) : Int) from by
    have : ((2 : Int) ^ m) = ((2 ^ m : Nat) : Int) := by simp
    rw [this]; omega]
  exact u8_xor_nat _ _ (by have := c.toNat_lt; omega) hp

set_option maxHeartbeats 1000000 in
theorem law_burst (a : Option Addr) (l : List UInt8) (n c : Nat) (bits0 at0 : Int) (w : World) (hn : l.length = n) (hl : l.length ≤ maxLen) (hr : RowB w a l)
    (h0 : 0 ≤ bits0) (h1 : bits0 < 4294967296) :
    Calls Try.prog 6 #[.slice a n c, .int .u32 bits0, .int .i64 at0] w fun e w' => e = .returned (.bool true) ∧ Below w.heap.size w w' := by
  subst hn
  by_cases hg1 : l.length < 5
  · go_enter Try.func6, Try.ntmps6
    go_wp2_with (go_at_call 7; ((with_reducible refine (wakes_any _).mono ?_); rintro e w' ⟨rfl, hb⟩))
    go_returns
    exact ⟨rfl, hb⟩
  by_cases hg2 : 20000 < l.length
  · go_enter Try.func6, Try.ntmps6
    go_wp2_with (go_at_call 7; ((with_reducible refine (wakes_any _).mono ?_); rintro e w' ⟨rfl, hb⟩))
    go_returns
    exact ⟨rfl, hb⟩
  have hP : (8 : Int) ≤ 8 * (l.length : Int) - 32 := by omega
  obtain ⟨t0, t1⟩ := tmod_range at0 (8 * (l.length : Int) - 32) (by omega)
  obtain ⟨at_, hat, hat2⟩ := at_nat (at0.tmod (8 * (l.length : Int) - 32)) (8 * (l.length : Int) - 32) (by omega)
  have hat3 : at_ + 32 < 8 * l.length := by omega
  obtain ⟨bs, hbs, hb1, hb2⟩ := or_one bits0 h0 h1
  have HB := Lib.hid hb1
  have HAT := Lib.hid hat
  clear hat2 hP hb1 hat
  go_enter Try.func6, Try.ntmps6
  go_wp2_with (first
     | (at_builtin; refine wpList_app el_bytes rfl _ _ rfl w.heap.size _ 0 _ rfl (World.ownsRow_nil _ _ _ _) a l.length c (l.map B) rfl (by simp) hr (bytes_one _) (by omega) (Nat.le_refl _) ?_; intro a2 c2 w2 hown2 hg2))
  simp only [HAT.out]
  rw [Nat.zero_add] at hown2
  have hbw := Below.app (Below.refl _ _) (World.ownsRow_nil w w.heap.size 5 1) hg2 (Nat.le_refl _)
  obtain ⟨g, rfl⟩ : ∃ g, a2 = some ⟨g, 0, none⟩ := by
    rcases hown2.2 with ⟨hv, h0⟩ | ⟨g, cap, cur, hv, _⟩
    · omega
    · simp only [Value.slice.injEq] at hv; exact ⟨g, hv.1⟩
  clear hbs HAT t0 t1 hg2
  go_loopw [9] (fun i wr => ∃ (i' : Nat) (cur : List UInt8), i' ≤ 32 ∧ i = .int .i64 i' ∧ cur.length = l.length ∧ val cur = val l ^^^ (bs % 2 ^ i' * 2 ^ at_) ∧ wr.ownsRow w.heap.size 5 1 (.slice (some ⟨g, 0, none⟩) l.length c2) l.length (cur.map B) ∧ Below w.heap.size w wr) (fun i _ => 32 - (intOf i).toNat)
  case atStart => exact ⟨0, l, by omega, rfl, rfl, by simp [Nat.mod_one], by simpa using hown2, hbw⟩
  case round =>
    obtain ⟨i, cur, hi, rfl, hlen, hval, hown, hbw⟩ := hrel
    have HL := Lib.hid hlen
    have HV := Lib.hid hval
    clear hval hlen
    by_cases hlt : i < 32
    · have hidx : (at_ + i) / 8 < cur.length := by rw [HL.out]; omega
      by_cases hbit : bs / 2 ^ i % 2 = 1
      · have e1 : bits .and .u32 ((bs : Int) / 2 ^ i) 1 = 1 := shr_bit bs i hb2 hbit
        have hrow := own_row hown
        obtain ⟨b', o', hg, hcs⟩ := RowB.at hrow hidx
        simp only [Option.some.injEq, Addr.mk.injEq, and_true] at hg
        obtain ⟨rfl, rfl⟩ := hg
        have HB2 := Lib.hid hbit
        clear hrow hbit
        obtain ⟨q, hq⟩ : ∃ q : Nat, q = (at_ + i) / 8 := ⟨_, rfl⟩
        obtain ⟨m, hm⟩ : ∃ m : Nat, m = (at_ + i) % 8 := ⟨_, rfl⟩
        have e2 : ((at_ : Int) + (i : Int)).tdiv 8 = (q : Int) := by
          rw [Int.tdiv_eq_ediv_of_nonneg (by omega)]; omega
        have e3 : ((at_ : Int) + (i : Int)).tmod 8 = (m : Int) := by
          rw [Int.tmod_eq_emod_of_nonneg (by omega)]; omega
        have e4 : ((at_ : Int) + (i : Int)) / 8 = (q : Int) := by omega
        have e5 : ((at_ : Int) + (i : Int)) % 8 = (m : Int) := by omega
        have hix : q < l.length := by omega
        have hm8 : m < 8 := by omega
        have hk8 : at_ + i = 8 * q + m := by omega
        have hqc : q < cur.length := by rw [HL.out]; exact hix
        have hc1 := hcs q hqc
        rw [Nat.zero_add] at hc1
        have hf1 := hown.frozenAt q
        clear hcs
        have HK := Lib.hid hk8
        clear hq hm hk8
        have W1 := Lib.hid (IntWalk.i64_in (q : Int) ⟨by omega, by omega⟩)
        have W2 := Lib.hid (IntWalk.i64_in (m : Int) ⟨by omega, by omega⟩)
        go_wp2_with fail
        have w1 := W1.out
        have w2 := W2.out
        go_still_tail 13, (by kernel_rfl)
        clear w1 w2
        change wpList _ _ _ _ _ wr.drew
        go_wp2_with fail
        go_roundw
        case rel =>
          obtain ⟨h8, h9⟩ := u8_pow cur[q] hm8
          have hst := hown.stored q (.int .u8 (bits .xor .u8 (cur[q].toNat : Int) (2 ^ m % 256)))
          refine ⟨i + 1, cur.set q (cur[q] ^^^ UInt8.ofNat (2 ^ m)), by omega, by go_num, by rw [List.length_set]; exact HL.out, ?_, ?_, ?_⟩
          · rw [val_set _ _ hqc, HV.out, h9, mod_succ1 bs i HB2.out, val_xor_shift, Nat.xor_assoc]
            congr 2
            rw [← Nat.pow_add, ← Nat.pow_add]
            congr 1
            have := HK.out
            omega
          · rw [List.map_set]
            unfold B
            rw [← h8]
            exact hst.1
          · exact ((hbw.setCell (by exact (hown.lt g rfl).1) _).drew)
        case measure => simp [intOf]; omega
      · have e1 : bits .and .u32 ((bs : Int) / 2 ^ i) 1 = 0 := shr_bit0 bs i hb2 (by omega)
        have HB2 := Lib.hid hbit
        clear hbit
        go_wp2_with fail
        go_roundw
        case rel => exact ⟨i + 1, cur, by omega, by go_num, HL.out, by rw [HV.out]; congr 2; exact (mod_succ0 bs i (by have := HB2.out; omega)).symm, hown, hbw⟩
        case measure => simp [intOf]; omega
    · have hrow := own_row hown
      have hne : sumMore 0 cur ≠ sumMore 0 l := burst_ne (at_ := at_) HL.out (by have := HB.out; omega) hb2 (by omega) (by rw [HV.out, show i = 32 from by omega, Nat.mod_eq_of_lt hb2])
      have hne2 : (((sumMore 0 cur : Nat) : Int) == ((sumMore 0 l : Nat) : Int)) = false := by
        simp only [beq_eq_false_iff_ne, ne_eq]; omega
      have hne3 : (((sumMore 0 cur : Nat) : Int) != ((sumMore 0 l : Nat) : Int)) = true := by
        simp only [bne_iff_ne, ne_eq]; omega
      clear hne
      go_wp2_with (first
        | (go_at_call_of 8 (Value.slice (some ⟨g, 0, none⟩) l.length c2); ((with_reducible refine (sum_any _ cur _ _ _ HL.out (by rw [HL.out]; exact hl) hrow).mono ?_); rintro e w' ⟨rfl, rfl⟩))
        | (go_at_call 8; ((with_reducible refine (sum_any _ l _ _ _ rfl hl (hr.below hbw)).mono ?_); rintro e w' ⟨rfl, rfl⟩))
        | (go_at_call 7; ((with_reducible refine (wakes_any _).mono ?_); rintro e w' ⟨rfl, hb2⟩)))
      go_returns
      exact ⟨rfl, hbw.trans (hb2.mono hbw.size)⟩

theorem open_pieces {H : Type} {enc : TypeId × Value → H} {w : World} {a : Option Addr} {len cap : Nat} (h : Rd enc Try.prog w 31 [.slice a len cap]) :
    ∃ ls : List (List UInt8), ls.length = len ∧ len ≤ cap ∧ cap ≤ maxLen ∧ Pieces w a ls := by
  have each : ∀ cs, Rd enc Try.prog w 22 cs → ∃ x : Value × List UInt8, cs = [x.1] ∧ ∃ b c, x.1 = .slice b x.2.length c ∧ RowB w b x.2 ∧ x.2.length ≤ 140737488351232 := by
    intro cs hcs
    have hb : Try.prog.bytesOf 5 = 1 := by kernel_rfl
    rcases hcs.slice Try.underlying22 with rfl | ⟨x, l, c, rfl, _⟩
    · exact ⟨(.slice none 0 0, []), rfl, none, 0, rfl, .nil _ _, by simp⟩
    · obtain ⟨l', e1, e2, _, e3, _, e4⟩ := hcs.bytes Try.underlying22 Try.underlying5 (by kernel_rfl)
      refine ⟨(.slice (some x) l c, l'), rfl, some x, c, by rw [← e1], e4, ?_⟩
      rw [hb] at e3
      unfold reachBytes at e3
      show l'.length ≤ _
      omega
  obtain ⟨xs, h1, h2, h3, _, _, hg, hr⟩ := Rd.rows (α := Value × List UInt8) (cells := fun x => [x.1]) (size := 1)
    (good := fun x => ∃ b c, x.1 = .slice b x.2.length c ∧ RowB w b x.2 ∧ x.2.length ≤ 140737488351232) (fun _ => rfl) (by decide) Try.underlying31 (by kernel_rfl) each h
  refine ⟨xs.map (·.2), by simpa using h1, h2, h3, xs.map (·.1), ?_, by simp, ?_⟩
  · rw [← flatMap_one]; exact hr
  · intro i hi
    have hi2 : i < xs.length := by simpa using hi
    obtain ⟨b, c, e, hb, hl⟩ := hg xs[i] (List.getElem_mem hi2)
    refine ⟨b, c, ?_, by simpa using hb, by simpa using hl⟩
    rw [List.getElem?_map, List.getElem?_eq_getElem hi2]
    simp [e]
end Go.Proofs.Ytmlpgpopaakjbaa
