import Derived.Test.YtoofmofaimdhpaaPackA3
import Derived.Test.YtoofmofaimdhpaaLedCheck2
import Derived.Test.YtoofmofaimdhpaaDeleteOnlyLea
import Derived.Deep.RegionLaw
set_option linter.unusedVariables false
set_option linter.unusedSimpArgs false
namespace Go.Proofs.Ytoofmofaimdhpaa
open Go.ChangeShapes Go.WideShapes Go.ChangeAt Go.RowKit
set_option maxRecDepth 100000

/-- A row is left, in its own block, that alone has turned. -/
def RetUni (w : World) (B : Nat) (a : Option Addr) (c : Nat) (l : List Lease) (e : Ending) (w' : World) : Prop :=
  ∃ g, e = .returned (.slice a l.length c) ∧ LRow layLea w' a l ∧ Only g w w' ∧ B ≤ g ∧ ((∃ o q, a = some ⟨g, o, q⟩) ∨ g = w.heap.size)
theorem delete_uni (ls : List Lease) (B : Nat) (a : Option Addr) (n c : Nat) (fid : FuncId) (cap : Array Value) (p : Lease → Bool) (w : World) (h : SliAt layLea w B ⟨a, n, c⟩ ls) (ho : OwnSli layLea w B ⟨a, n, c⟩ ls) (hB : B ≤ w.heap.size) (hl : ls.length ≤ 900)
    (hcf : ∀ (args : Array Value) (w : World), (callFunc fid args).run Try.prog w = .ok (.enter fid args) w)
    (hf : ∀ x ∈ ls, ∀ w', (∀ k, k < B → w'.heap[k]? = w.heap[k]?) → Calls Try.prog fid (#[layLea.val x] ++ cap) w' fun e w'' => e = .returned (.bool (p x)) ∧ Below w'.heap.size w' w'') :
    Calls Try.prog 59 #[.slice a n c, .func (.func fid) #[] cap] w (RetUni w B a c (ls.filter fun x => !p x)) := by
  obtain rfl : ls.length = n := h.len
  by_cases h0 : ls = []
  · subst h0
    refine (deleteOnlyNilLea a c fid cap w hcf).mono fun e w' ⟨he, hb⟩ => ?_
    exact ⟨w.heap.size, he, .inl rfl, .of hb, hB, .inr rfl⟩
  · have hpos : 0 < ls.length := List.length_pos_iff.2 h0
    have hown := ho.own hpos
    obtain ⟨g, rfl, hg, hcm⟩ := own_head hown (by intro h1; have := congrArg List.length h1; rw [layLea.length, List.length_nil, Nat.mul_eq_zero] at this; have := layLea.pos; omega)
    have hm := Mine.of_own (L := layLea) hown
    have hlt := hm.lt h0
    refine (deleteOnlyLea ls B g ls.length c fid cap p w rfl h.le hcm hm hB hcf (fun x hx w' hb' => hf x hx w' (fun k hk => hb'.block k (by omega) (by omega)))).mono fun e w' ⟨he, hr, hb⟩ => ?_
    exact ⟨g, he, hr, hb, hg, .inl ⟨0, none, rfl⟩⟩
/-- A row that lies apart from the one that was turned. -/
theorem SliAt.apart {P : Program} {e : TypeId} {α : Type} {L : Lay P e α} {w w' : World} {B g : Nat} {a : Option Addr} {s : Sli} {xs : List α} (h : SliAt L w B s xs) (hk : Only g w w') (hap : Ap a s.a) (hg : (∃ o q, a = some ⟨g, o, q⟩) ∨ g = w.heap.size) : SliAt L w' B s xs := by
  refine ⟨h.len, h.le, h.nil, h.near, ?_⟩
  by_cases h0 : xs.flatMap L.cells = []
  · exact .inl h0
  · rcases h.row with h1 | ⟨b, o, ha, hc⟩
    · exact absurd h1 h0
    · have hlt := Row.lt (.inr ⟨b, o, rfl, hc⟩) h0
      have hne : b ≠ g := by
        rcases hg with ⟨o', q', e⟩ | rfl
        · exact fun e2 => hap g o' q' b o none e ha e2.symm
        · omega
      exact .inr ⟨b, o, ha, fun i hi => by rw [World.cell?_of_block (w := w) (hk.block b hlt hne)]; exact hc i hi⟩
theorem RetSt.up {w w1 w' : World} {s : St} {e : Ending} (h : RetSt w1 0 s e w') (hb : Below w.heap.size w w1) : RetSt w 0 s e w' := let ⟨r, h1, h2, h3⟩ := h; ⟨r, h1, h2, hb.trans (h3.mono hb.size)⟩

theorem row_lt {w w' : World} {a : Option Addr} {xs : List Value} (h : Row w a xs) (hk : ∀ k, k < w.heap.size → w'.heap[k]? = w.heap[k]?) : Row w' a xs := by
  by_cases h0 : xs = []
  · exact .inl h0
  · rcases h with h | ⟨b, o, rfl, hc⟩
    · exact absurd h h0
    · have hlt := Row.lt (.inr ⟨b, o, rfl, hc⟩) h0
      exact .inr ⟨b, o, rfl, fun i hi => by rw [World.cell?_of_block (w := w) (hk b hlt)]; exact hc i hi⟩
/-- Behind the door: what the deferred sweep leaves is handed back. -/
theorem door_st {w : World} {B g : Nat} {s : St} {fn : Func} {tmps : Array Value} {fid : FuncId} {fv : Fn} {cap : Array Value} {R : Ending → World → Prop} (hd : CallsD Try.prog fid #[.pointer (some ⟨g, 0, none⟩)] .returning w (DefSweep w B g s .returning))
    (hi : (invoke (.fn fv cap) #[]).run Try.prog w = .ok (.enter fid #[.pointer (some ⟨g, 0, none⟩)]) w)
    (hr : ∀ w' r, Box w' g (Raw.cells r) → StAt w' B r (sweptS s) → Below g w w' → ∃ v, (results fn tmps).run Try.prog w' = .ok v w' ∧ R (.returned v) w') :
    Leaves Try.prog fn tmps R [{ target := .fn fv cap, args := #[] }] .returning w := by
  refine leaves_cons (f := fid) (args := #[.pointer (some ⟨g, 0, none⟩)]) (by simp) hi ?_
  refine hd.mono ?_
  rintro e u' w9 ⟨rfl, rfl, r9, hbx9, hst9, hb9, _⟩
  exact hr w9 r9 hbx9 hst9 hb9
theorem door_only {w : World} {B g : Nat} {s : St} {fn : Func} {tmps : Array Value} {fid : FuncId} {fv : Fn} {cap : Array Value} {R : Ending → World → Prop} (hd : CallsD Try.prog fid #[.pointer (some ⟨g, 0, none⟩)] .returning w (DefSweep w B g s .returning))
    (hi : (invoke (.fn fv cap) #[]).run Try.prog w = .ok (.enter fid #[.pointer (some ⟨g, 0, none⟩)]) w)
    (hr : ∀ w' r, Box w' g (Raw.cells r) → StAt w' B r (sweptS s) → Only g w w' → ∃ v, (results fn tmps).run Try.prog w' = .ok v w' ∧ R (.returned v) w') :
    Leaves Try.prog fn tmps R [{ target := .fn fv cap, args := #[] }] .returning w := by
  refine leaves_cons (f := fid) (args := #[.pointer (some ⟨g, 0, none⟩)]) (by simp) hi ?_
  refine hd.mono ?_
  rintro e u' w9 ⟨rfl, rfl, r9, hbx9, hst9, _, ho9⟩
  exact hr w9 r9 hbx9 hst9 ho9

set_option maxHeartbeats 4000000 in
theorem expire_st (s : St) (r : Raw) (B : Nat) (zs : List Int) (za : Option Addr) (zn zc : Nat) (w : World) (h : StAt w B r s) (hl1 : s.tens.length ≤ 900) (hl2 : s.leas.length ≤ 900) (hl3 : s.sess.length ≤ 900) (hl4 : s.dsks.length ≤ 900)
    (hzn : zs.length = zn) (hzl : zn ≤ 1000) (hz : Row w za (zs.map (Value.int .i64))) :
    Calls Try.prog 24 #[r.agg, .slice za zn zc] w (RetSt w 0 (expireS s zs)) := by
  have hmf : ∀ (fn : Fn) (first cap : Array Value) (w : World), (Instr.makeFunc fn first cap).run Try.prog w = .ok (.func fn first cap) w := fun _ _ _ _ => rfl
  have HS := Lib.hid h
  have HL := Lib.hid (And.intro hl1 (And.intro hl2 (And.intro hl3 hl4)))
  have HZ := Lib.hid hz
  have HMX := Lib.hid (show zn ≤ maxLen from le_maxLen (by omega))
  have HCK := Lib.hid (fun w' (hb : Below w.heap.size w w') => check_st s r B w' (h.below hb) hl1 hl2)
  have HCP := Lib.hid (fun w' (hb : Below w.heap.size w w') => copied_st s r B w' (h.below hb) hl1 hl2 hl3 hl4)
  have HE : Hid (expireS s zs = if stOk s = true then sweptS { s with leas := s.leas.filter fun x => !zs.contains x.id } else s) := rfl
  generalize expireS s zs = res at HE ⊢
  obtain ⟨term, stamp, next, ⟨a1, n1, c1⟩, ⟨a2, n2, c2⟩, ⟨a3, n3, c3⟩, ⟨a4, n4, c4⟩⟩ := r
  have HBX : Hid (∀ w', Below (((w.alloc (.cells #[.int .i64 term, .int .i64 stamp, .int .i64 next, .slice a1 n1 c1, .slice a2 n2 c2, .slice a3 n3 c3, .slice a4 n4 c4] 27)).alloc (.cells #[.slice za zn zc] 45)).alloc (.cells #[.int .i64 0, .int .i64 0, .int .i64 0, .slice none 0 0, .slice none 0 0, .slice none 0 0, .slice none 0 0] 27)).heap.size (((w.alloc (.cells #[.int .i64 term, .int .i64 stamp, .int .i64 next, .slice a1 n1 c1, .slice a2 n2 c2, .slice a3 n3 c3, .slice a4 n4 c4] 27)).alloc (.cells #[.slice za zn zc] 45)).alloc (.cells #[.int .i64 0, .int .i64 0, .int .i64 0, .slice none 0 0, .slice none 0 0, .slice none 0 0, .slice none 0 0] 27)) w' →
      Box w' w.heap.size (Raw.cells ⟨term, stamp, next, ⟨a1, n1, c1⟩, ⟨a2, n2, c2⟩, ⟨a3, n3, c3⟩, ⟨a4, n4, c4⟩⟩) ∧ Box w' (w.heap.size + 1) [.slice za zn zc] ∧ Box w' (w.heap.size + 1 + 1) (Raw.cells ⟨0, 0, 0, ⟨none, 0, 0⟩, ⟨none, 0, 0⟩, ⟨none, 0, 0⟩, ⟨none, 0, 0⟩⟩) ∧ w.heap.size + 3 ≤ w'.heap.size) :=
    fun w' hb => ⟨Box.of_alloc (mid_alloc' (mid_alloc' hb)), Box.of_alloc1 (mid_alloc' hb), Box.of_alloc2 hb, by have := hb.size; simp at this; omega⟩
  clear h hl1 hl2 hl3 hl4 hz
  cases hok : stOk s with
  | false =>
    have HOK := Lib.hid hok
    have HO : Hid (res = s) := by show _ = _; rw [HE.out, if_neg (by rw [hok]; simp)]
    clear hok HE HCP
    go_enter_defers Try.func24, Try.ntmps24
    go_wp2_with (first
      | (refine wpList_load_as laySt rfl (.tmp 2) rfl w.heap.size 0 rfl ⟨term, stamp, next, ⟨a1, n1, c1⟩, ⟨a2, n2, c2⟩, ⟨a3, n3, c3⟩, ⟨a4, n4, c4⟩⟩ (.agg #[.int .i64 term, .int .i64 stamp, .int .i64 next, .slice a1 n1 c1, .slice a2 n2 c2, .slice a3 n3 c3, .slice a4 n4 c4]) rfl (HBX.out _ (by repeat' (first | (with_reducible exact Below.refl _ _) | (with_reducible assumption) | (with_reducible refine Below.drew ?_) | (with_reducible refine Below.more ?_ _) | (with_reducible refine Below.put ?_ ?_ _) | (with_reducible refine Below.next ?_ (by with_reducible assumption)) | (with_reducible exact Nat.le_refl _) | (with_reducible refine Below.size' ?_) | omega))).1.range ?_)
      | (go_at_call 19; ((with_reducible refine (HCK.out _ (by repeat' (first | (with_reducible exact Below.refl _ _) | (with_reducible assumption) | (with_reducible refine Below.drew ?_) | (with_reducible refine Below.more ?_ _) | (with_reducible refine Below.put ?_ ?_ _) | (with_reducible refine Below.next ?_ (by with_reducible assumption)) | (with_reducible exact Nat.le_refl _) | (with_reducible refine Below.size' ?_) | omega))).mono ?_); rw [HOK.out]; rintro e w3 ⟨rfl, hb3⟩; have HX3 := Lib.hid (HBX.out w3 (by repeat' (first | (with_reducible exact Below.refl _ _) | (with_reducible assumption) | (with_reducible refine Below.drew ?_) | (with_reducible refine Below.more ?_ _) | (with_reducible refine Below.put ?_ ?_ _) | (with_reducible refine Below.next ?_ (by with_reducible assumption)) | (with_reducible exact Nat.le_refl _) | (with_reducible refine Below.size' ?_) | omega)))))
      | (refine wpList_store_whole laySt rfl (.tmp 4) (.tmp 8) rfl (w.heap.size + 1 + 1) ⟨term, stamp, next, ⟨a1, n1, c1⟩, ⟨a2, n2, c2⟩, ⟨a3, n3, c3⟩, ⟨a4, n4, c4⟩⟩ _ rfl rfl HX3.out.2.2.1 rfl ?_; intro w4 hb4 hw4; have HX4 := Lib.hid hb4; have HW4 := Lib.hid hw4; clear hb4 hw4))
    have b3 : Below w.heap.size w w3 := (by repeat' (first | (with_reducible exact Below.refl _ _) | (with_reducible assumption) | (with_reducible refine Below.drew ?_) | (with_reducible refine Below.more ?_ _) | (with_reducible refine Below.put ?_ ?_ _) | (with_reducible refine Below.next ?_ (by with_reducible assumption)) | (with_reducible exact Nat.le_refl _) | (with_reducible refine Below.size' ?_) | omega))
    have b4 : Below w.heap.size w w4 := b3.trans (HW4.out.below _ (by omega))
    obtain ⟨k0, k1, k2, k3, k4, k5, k6⟩ := cellsSt0 HX4.out.range
    refine ⟨.agg #[.int .i64 term, .int .i64 stamp, .int .i64 next, .slice a1 n1 c1, .slice a2 n2 c2, .slice a3 n3 c3, .slice a4 n4 c4], by simp [results, Try.results24, go_sem, k0, k1, k2, k3, k4, k5, k6], ⟨term, stamp, next, ⟨a1, n1, c1⟩, ⟨a2, n2, c2⟩, ⟨a3, n3, c3⟩, ⟨a4, n4, c4⟩⟩, rfl, ?_, b4⟩
    rw [HO.out]
    exact (HS.out.below b4).mono (Nat.zero_le _)
  | true =>
    have HOK := Lib.hid hok
    have HO : Hid (res = sweptS { s with leas := s.leas.filter fun x => !zs.contains x.id }) := by show _ = _; rw [HE.out, if_pos hok]
    have HFIT : Hid (Fits s.leas) := by
      have h := hok
      unfold stOk at h
      simp only [Bool.and_eq_true] at h
      exact leasOk_fits h.1.1 h.1.2.1
    clear hok HE
    go_enter_defers Try.func24, Try.ntmps24
    go_wp2_with (first
      | (refine wpList_load_as laySt rfl (.tmp 2) rfl w.heap.size 0 rfl ⟨term, stamp, next, ⟨a1, n1, c1⟩, ⟨a2, n2, c2⟩, ⟨a3, n3, c3⟩, ⟨a4, n4, c4⟩⟩ (.agg #[.int .i64 term, .int .i64 stamp, .int .i64 next, .slice a1 n1 c1, .slice a2 n2 c2, .slice a3 n3 c3, .slice a4 n4 c4]) rfl (HBX.out _ (by repeat' (first | (with_reducible exact Below.refl _ _) | (with_reducible assumption) | (with_reducible refine Below.drew ?_) | (with_reducible refine Below.more ?_ _) | (with_reducible refine Below.put ?_ ?_ _) | (with_reducible refine Below.next ?_ (by with_reducible assumption)) | (with_reducible exact Nat.le_refl _) | (with_reducible refine Below.size' ?_) | omega))).1.range ?_)
      | (go_at_call 19; ((with_reducible refine (HCK.out _ (by repeat' (first | (with_reducible exact Below.refl _ _) | (with_reducible assumption) | (with_reducible refine Below.drew ?_) | (with_reducible refine Below.more ?_ _) | (with_reducible refine Below.put ?_ ?_ _) | (with_reducible refine Below.next ?_ (by with_reducible assumption)) | (with_reducible exact Nat.le_refl _) | (with_reducible refine Below.size' ?_) | omega))).mono ?_); rw [HOK.out]; rintro e w3 ⟨rfl, hb3⟩; have HX3 := Lib.hid (HBX.out w3 (by repeat' (first | (with_reducible exact Below.refl _ _) | (with_reducible assumption) | (with_reducible refine Below.drew ?_) | (with_reducible refine Below.more ?_ _) | (with_reducible refine Below.put ?_ ?_ _) | (with_reducible refine Below.next ?_ (by with_reducible assumption)) | (with_reducible exact Nat.le_refl _) | (with_reducible refine Below.size' ?_) | omega)))))
      | (go_at_call 31; ((with_reducible refine (HCP.out _ (by repeat' (first | (with_reducible exact Below.refl _ _) | (with_reducible assumption) | (with_reducible refine Below.drew ?_) | (with_reducible refine Below.more ?_ _) | (with_reducible refine Below.put ?_ ?_ _) | (with_reducible refine Below.next ?_ (by with_reducible assumption)) | (with_reducible exact Nat.le_refl _) | (with_reducible refine Below.size' ?_) | omega))).mono ?_); rintro e w4 ⟨⟨t4, s4, n4', ⟨x1, m1, y1⟩, ⟨x2, m2, y2⟩, ⟨x3, m3, y3⟩, ⟨x4, m4, y4⟩⟩, rfl, hst4, hb4⟩; have HST4 := Lib.hid hst4; have HX4 := Lib.hid (HBX.out w4 (by repeat' (first | (with_reducible exact Below.refl _ _) | (with_reducible assumption) | (with_reducible refine Below.drew ?_) | (with_reducible refine Below.more ?_ _) | (with_reducible refine Below.put ?_ ?_ _) | (with_reducible refine Below.next ?_ (by with_reducible assumption)) | (with_reducible exact Nat.le_refl _) | (with_reducible refine Below.size' ?_) | omega))); clear hst4))
      | (refine wpList_store_whole laySt rfl (.tmp 4) (.tmp 11) rfl (w.heap.size + 1 + 1) ⟨t4, s4, n4', ⟨x1, m1, y1⟩, ⟨x2, m2, y2⟩, ⟨x3, m3, y3⟩, ⟨x4, m4, y4⟩⟩ _ rfl rfl HX4.out.2.2.1 rfl ?_; intro w5 hbx5 hw5; have HX5 := Lib.hid hbx5; have HW5 := Lib.hid hw5; have q3 := HX3.out.2.2.2; have HST5 := Lib.hid (HST4.out.mid (Mid.wrote (Mid.refl w3.heap.size w4.heap.size w4) hw5 (.inl (by omega))) (Nat.le_refl _) (Nat.le_refl _)); have HZ5 := Lib.hid (HX4.out.2.1.wrote hw5 (by omega)); have hb5 : Below (w.heap.size + 1 + 1) w4 w5 := hw5.below _ (Nat.le_refl _); have hb45 : Below w.heap.size w w5 := Below.trans (show Below w.heap.size w w4 from (by repeat' (first | (with_reducible exact Below.refl _ _) | (with_reducible assumption) | (with_reducible refine Below.drew ?_) | (with_reducible refine Below.more ?_ _) | (with_reducible refine Below.put ?_ ?_ _) | (with_reducible refine Below.next ?_ (by with_reducible assumption)) | (with_reducible exact Nat.le_refl _) | (with_reducible refine Below.size' ?_) | omega))) (hb5.mono (by omega)); have q5 : w5.heap.size = w4.heap.size := hw5.size; have q34 := hb4.size; have k4 := hbx5.cell (j := 4) rfl; have z4 : w5.frozen? ⟨w.heap.size + 1 + 1, 4, none⟩ = false := hbx5.froz (j := 4) (show 4 < 7 by decide); clear hbx5 hw5)
      | (go_at_call 59; (have HD := delete_uni s.leas w3.heap.size x2 m2 y2 60 #[.pointer (some ⟨w.heap.size + 1, 0, none⟩)] (fun x => zs.contains x.id) w5 HST5.out.is.lea HST5.out.lea (by omega) HL.out.2.1 enter_expire2 (fun x _ w' hk => expire2_any x zs (w.heap.size + 1) za zn zc w' hzn HMX.out ((HZ5.out.block (hk _ (by omega))).cell (j := 0) rfl) (row_lt HZ.out (fun k hk2 => (hk k (by omega)).trans (hb45.block k hk2)))); (with_reducible refine HD.mono ?_); clear HD; generalize hfl : s.leas.filter (fun x => !zs.contains x.id) = fl; have HFL := Lib.hid hfl; clear hfl; rintro e w6 ⟨g6, rfl, hr6, ho6, hg6, ha6⟩; have HR6 := Lib.hid hr6; have HO6 := Lib.hid ho6; have HA6 := Lib.hid ha6; have q6 := ho6.size; have HX6 := Lib.hid (HX5.out.block (ho6.block (w.heap.size + 1 + 1) (by omega) (by omega))); clear hr6 ho6 ha6 k4 z4))
      | (refine wpList_store_field rfl (.tmp 16) (.tmp 15) rfl size1_slice.1 (w.heap.size + 1 + 1) 4 _ (.slice x2 fl.length y2) rfl rfl rfl rfl HX6.out (show 4 < 7 by decide) ?_; intro w7 hbx7 hw7; have HX7 : Hid (Box w7 (w.heap.size + 1 + 1) (Raw.cells ⟨t4, s4, n4', ⟨x1, m1, y1⟩, ⟨x2, fl.length, y2⟩, ⟨x3, m3, y3⟩, ⟨x4, m4, y4⟩⟩)) := hbx7; have HW7 := Lib.hid hw7; have q7 := hw7.size; clear hbx7 hw7)
      | (refine wpList_load_as laySt rfl (.tmp 4) rfl (w.heap.size + 1 + 1) 0 rfl ⟨t4, s4, n4', ⟨x1, m1, y1⟩, ⟨x2, fl.length, y2⟩, ⟨x3, m3, y3⟩, ⟨x4, m4, y4⟩⟩ (.agg #[.int .i64 t4, .int .i64 s4, .int .i64 n4', .slice x1 m1 y1, .slice x2 fl.length y2, .slice x3 m3 y3, .slice x4 m4 y4]) rfl HX7.out.range ?_)
      | (refine wpList_store_whole laySt rfl (.tmp 4) (.tmp 17) rfl (w.heap.size + 1 + 1) ⟨t4, s4, n4', ⟨x1, m1, y1⟩, ⟨x2, fl.length, y2⟩, ⟨x3, m3, y3⟩, ⟨x4, m4, y4⟩⟩ _ rfl rfl HX7.out rfl ?_; intro w8 hbx8 hw8; have HX8 := Lib.hid hbx8; have HW8 := Lib.hid hw8; have q8 := hw8.size; clear hbx8 hw8))
    have m58 : Mid w3.heap.size w6.heap.size w6 w8 := ((Mid.refl w3.heap.size w6.heap.size w6).wrote HW7.out (.inl (by omega))).wrote HW8.out (.inl (by omega))
    have S8 : StAt w8 w3.heap.size ⟨t4, s4, n4', ⟨x1, m1, y1⟩, ⟨x2, fl.length, y2⟩, ⟨x3, m3, y3⟩, ⟨x4, m4, y4⟩⟩ { s with leas := fl } := by
      have i5 := HST5.out
      have hle : fl.length ≤ y2 := Nat.le_trans (by rw [← HFL.out]; exact Nat.le_trans (List.length_filter_le _ _) (Nat.le_of_eq i5.is.lea.len)) i5.is.lea.le
      have l6 : SliAt layLea w6 w3.heap.size ⟨x2, fl.length, y2⟩ fl := ⟨rfl, hle, i5.is.lea.nil, i5.is.lea.near, HR6.out⟩
      exact ⟨i5.is.term, i5.is.stamp, i5.is.next, (i5.is.ten.apart HO6.out i5.tl.symm HA6.out).mid m58 (Nat.le_refl _) (Nat.le_refl _), l6.mid m58 (Nat.le_refl _) (Nat.le_refl _), (i5.is.ses.apart HO6.out i5.ls HA6.out).mid m58 (Nat.le_refl _) (Nat.le_refl _), (i5.is.dsk.apart HO6.out i5.ld HA6.out).mid m58 (Nat.le_refl _) (Nat.le_refl _)⟩
    have b8 : Below w.heap.size w w8 := ((hb45.trans (HO6.out.below (by omega) (by omega))).trans (HW7.out.below _ (by omega))).trans (HW8.out.below _ (by omega))
    refine door_st (expire1_d w3.heap.size (w.heap.size + 1 + 1) { s with leas := fl } .returning w8 (sweep_st { s with leas := fl } _ w3.heap.size (w.heap.size + 1 + 1) w8 HX8.out S8 (by omega) (by omega) (HFIT.out.sub (fun x hx => (List.mem_filter.1 (show x ∈ s.leas.filter (fun x => !zs.contains x.id) by rw [HFL.out]; exact hx)).1)) HL.out.1 (by show fl.length ≤ 900; rw [← HFL.out]; exact Nat.le_trans (List.length_filter_le _ _) HL.out.2.1))) (by simp [go_sem]) ?_
    intro w9 r9 hbx9 hst9 hb9
    obtain ⟨k0, k1, k2, k3, k4, k5, k6⟩ := cellsSt0 hbx9.range
    refine ⟨r9.agg, by simp [results, Try.results24, go_sem, k0, k1, k2, k3, k4, k5, k6], r9, rfl, ?_, b8.trans (hb9.mono (by omega))⟩
    rw [HO.out, HFL.out]
    exact hst9.mono (Nat.zero_le _)
end Go.Proofs.Ytoofmofaimdhpaa

/- slices.Delete of one lease, in a row of the call's own; the closure that tells a report's lease. -/
namespace Go.Proofs.Ytoofmofaimdhpaa
open Go.ChangeShapes Go.WideShapes Go.ChangeAt Go.RowKit
set_option maxRecDepth 100000

theorem rangeAt_app {w : World} {b o : Nat} {xs ys : List Value} (h : w.rangeAt b o xs) (h2 : w.rangeAt b (o + xs.length) ys) : w.rangeAt b o (xs ++ ys) := fun j v hj => by
  by_cases h1 : j < xs.length
  · rw [List.getElem?_append_left h1] at hj; exact h j v hj
  · rw [List.getElem?_append_right (by omega)] at hj
    have := h2 _ v hj
    rw [show o + xs.length + (j - xs.length) = o + j by omega] at this
    exact this
theorem rangeAt_take {w : World} {b o : Nat} {xs : List Value} (k : Nat) (h : w.rangeAt b o xs) : w.rangeAt b o (xs.take k) := fun j v hj => by
  have hk : j < k := by have := (List.getElem?_eq_some_iff.1 hj).1; rw [List.length_take] at this; omega
  rw [List.getElem?_take, if_pos hk] at hj; exact h j v hj
theorem rangeAt_drop {w : World} {b o : Nat} {xs : List Value} (k : Nat) (h : w.rangeAt b o xs) : w.rangeAt b (o + k) (xs.drop k) := fun j v hj => by
  rw [List.getElem?_drop] at hj
  have := h _ v hj
  rw [← Nat.add_assoc] at this
  exact this
theorem erase_parts {α : Type} (xs : List α) (i : Nat) : xs.eraseIdx i = xs.take i ++ xs.drop (i + 1) := List.eraseIdx_eq_take_drop_succ xs i

set_option maxHeartbeats 2000000 in
theorem delete_at (xs : List Lease) (B g n c i : Nat) (w : World) (hn : xs.length = n) (hnc : n ≤ c) (hl : c ≤ maxLen) (hm : Mine layLea w B g 0 xs) (hi : i < n) :
    Calls Try.prog 54 #[.slice (some ⟨g, 0, none⟩) n c, .int .i64 i, .int .i64 ((i : Int) + 1)] w (RetDelOLea g w (some ⟨g, 0, none⟩) c (xs.eraseIdx i)) := by
  subst hn
  have hl2 := lt_maxLen hl
  have hlm : xs.length ≤ maxLen := Nat.le_trans hnc hl
  have hlen2 : (xs.eraseIdx i).length = xs.length - 1 := List.length_eraseIdx_of_lt hi
  obtain ⟨j, hj⟩ : ∃ j : Nat, j = i + 1 := ⟨_, rfl⟩
  rw [show ((i : Int) + 1) = ((j : Nat) : Int) by omega]
  obtain ⟨news, hnews⟩ : ∃ news, news = (xs.drop j).flatMap layLea.cells := ⟨_, rfl⟩
  have hlen : news.length = (xs.length - j) * 7 := by rw [hnews, layLea.length, List.length_drop]; rfl
  have hall : (xs.flatMap layLea.cells).drop (j * 7) = news := by rw [hnews]; exact flatMap_drop layLea.len xs j
  have hfirst : (xs.flatMap layLea.cells).take (i * 7) = (xs.take i).flatMap layLea.cells := flatMap_take layLea.len xs i
  have hr1 : w.rangeAt g (j * 7) news := by
    have := rangeAt_drop (j * 7) hm.2.1
    rw [hall, Nat.zero_add] at this; exact this
  have hr0 : w.rangeAt g 0 ((xs.take i).flatMap layLea.cells) := by rw [← hfirst]; exact rangeAt_take _ hm.2.1
  have hth : w.there g 0 (xs.length * 7) := hm.2.2
  obtain ⟨A, hA, hsrc⟩ : ∃ A : Addr, (if c = j then some (⟨g, 0, none⟩ : Addr) else some ⟨g, j * 7, none⟩) = some A ∧ Hid (∀ t u, news[t]? = some u → w.drew.cell? (A.add t) = some u) := by
    by_cases h : c = j
    · refine ⟨⟨g, 0, none⟩, by simp [h], fun t u hu => ?_⟩
      have h0 : news.length = 0 := by rw [hlen]; omega
      rw [List.length_eq_zero_iff.1 h0] at hu
      simp at hu
    · refine ⟨⟨g, j * 7, none⟩, by simp [h], fun t u hu => ?_⟩
      have := hr1 t u hu
      by_cases ht : t = 0
      · subst ht; simpa [Addr.add] using this
      · simpa [Addr.add, ht] using this
  have s1 : Hid (news.length = (xs.length - j) * 7) := hlen
  have s2 : Hid (∀ u ∈ news, u.oneCell' = true) := by rw [hnews]; exact layLea.ones _
  have s3 : Hid (∀ t, t < news.length → (w.drew.cell? ⟨g, 0 + i * 7 + t, none⟩).isSome = true ∧ w.drew.frozen? ⟨g, 0 + i * 7 + t, none⟩ = false) := by
    intro t ht
    rw [hlen] at ht
    have := hth (i * 7 + t) (by omega)
    rw [← Nat.add_assoc] at this
    exact this
  obtain ⟨W1, hW1⟩ : ∃ W1, W1 = w.drew.setCells g (0 + i * 7) news := ⟨_, rfl⟩
  have hth0 : w.drew.there g 0 (xs.length * 7) := hth
  have hW : Hid (W1 = w.drew.setCells g (0 + i * 7) news) := hW1
  have hthn : w.drew.there g (0 + i * 7) news.length := fun t ht => s3.out t ht
  have HM1 : Hid (W1.rangeAt g 0 ((xs.eraseIdx i).flatMap layLea.cells)) := by
    show World.rangeAt _ _ _ _
    rw [hW1, erase_parts, List.flatMap_append, ← hj, ← hnews]
    have hl0 : ((xs.take i).flatMap layLea.cells).length = i * 7 := by rw [layLea.length, List.length_take, Nat.min_eq_left (by omega)]; rfl
    refine rangeAt_app (World.rangeAt_setCells_apart (w := w.drew) hr0 _ _ _ (.inr (.inl (by rw [hl0]; exact Nat.le_refl _)))) ?_
    rw [hl0]
    exact World.rangeAt_setCells_same w.drew g (0 + i * 7) news hthn
  have hlast : i + (xs.length - j) = xs.length - 1 := by omega
  have hone : xs.length - (i + (xs.length - j)) = 1 := by omega
  have HTH : Hid (W1.there g ((i + (xs.length - j)) * 7) ((xs.length - (i + (xs.length - j))) * 7)) := by
    show World.there _ _ _ _
    rw [hW1, hone, hlast]
    refine World.there_setCells (fun t ht => ?_) _ _ _
    have := hth0 ((xs.length - 1) * 7 + t) (by omega)
    rw [Nat.zero_add] at this
    exact this
  have HO1 : Hid (Only g w W1) := by
    show Only _ _ _
    rw [hW1]
    exact (Only.refl g w).put (fun B hB => Below.setCells hB _ _ ((Below.refl B w).drew)) (fun k hk => setCells_keep g _ _ w.drew k hk)
  have HLN := Lib.hid hlen2
  clear hlast hone hW1 hth0 hthn hth hr0 hr1 hfirst hall hlen hlen2 hnews hm
  generalize xs.eraseIdx i = res at HM1 HLN ⊢
  obtain ⟨i0, hi0, hz1⟩ : ∃ i0, Try.prog.info? 38 = some i0 ∧ i0.size = 7 := by
    obtain ⟨i0, z, h1, h2, h3, _⟩ := layLea.parts
    exact ⟨i0, h1, h3⟩
  go_enter Try.func54, Try.ntmps54
  have hic : i ≤ c := by omega
  have hjc : j ≤ c := by omega
  have hjn : j ≤ xs.length := by omega
  have hij : i < j := by omega
  have hij2 : ((i : Int) == (j : Int)) = false := by rw [beq_eq_false_iff_ne]; omega
  have HJ := Lib.hid hj
  clear hj
  go_wp2_with fail
  go_region_law (refine step_append_room rfl (.tmp 22) (.tmp 25) 23 rfl 38 i0 7 Try.underlying23 hi0 hz1 g 0 i c (by simp [Act.eval, Act.put]) A (xs.length - j) (c - j) news (by simp [Act.eval, Act.put]) s1.out hsrc.out s2.out (by omega) s3.out ?_; rw [← hW.out])
  go_wp2_with (refine wpList_clear_lay layLea Try.underlying23 rfl (.tmp 31) rfl g ((i + (xs.length - j)) * 7) (xs.length - (i + (xs.length - j))) (c - (i + (xs.length - j))) rfl HTH.out ?_; intro zs _; obtain ⟨W5, hW5⟩ : ∃ W5, W5 = W1.setCells g ((i + (xs.length - j)) * 7) zs := ⟨_, rfl⟩; have HW5 := Lib.hid hW5; rw [← hW5]; clear hW5)
  go_returns
  have hres : res.length = i + (xs.length - j) := by have := HLN.out; have := HJ.out; omega
  refine ⟨by rw [hres]; rfl, ?_, ?_⟩
  · have hr : W5.rangeAt g 0 (res.flatMap layLea.cells) := by
      rw [HW5.out]
      refine World.rangeAt_setCells_apart HM1.out _ _ _ (.inr (.inl ?_))
      rw [layLea.length, hres, Nat.zero_add]; exact Nat.le_refl _
    exact .inr ⟨g, 0, rfl, fun k hk => hr k _ (List.getElem?_eq_getElem hk)⟩
  · rw [HW5.out]
    exact HO1.out.put (fun B hB => Below.setCells hB _ _ (Below.refl B W1)) (fun k hk => setCells_keep g _ _ W1 k hk)
theorem report2_any (x : Lease) (sh ep le : Int) (gl gs ge : Nat) (w : World) (hc1 : w.cell? ⟨gl, 0, none⟩ = some (.int .i64 le)) (hc2 : w.cell? ⟨gs, 0, none⟩ = some (.int .i64 sh)) (hc3 : w.cell? ⟨ge, 0, none⟩ = some (.int .i64 ep)) :
    Calls Try.prog 53 #[x.agg, .pointer (some ⟨gl, 0, none⟩), .pointer (some ⟨gs, 0, none⟩), .pointer (some ⟨ge, 0, none⟩)] w fun e w' => e = .returned (.bool (leaIs sh ep le x)) ∧ Below w.heap.size w w' := by
  have hlt1 := World.block_lt_of_cell? w _ hc1
  have hlt2 := World.block_lt_of_cell? w _ hc2
  have hlt3 := World.block_lt_of_cell? w _ hc3
  simp only at hlt1 hlt2 hlt3
  obtain ⟨x0, x1, x2, x3, x4, x5, x6⟩ := x
  have HR : Hid (leaIs sh ep le ⟨x0, x1, x2, x3, x4, x5, x6⟩ = decide (x0 = le ∧ x2 = sh ∧ x3 = ep)) := rfl
  by_cases e1 : x0 = le
  · go_enter Try.func53, Try.ntmps53
    go_wp2
    all_goals (go_returns; exact ⟨ret_bool (by rw [HR.out]; simp_all), (by repeat' (first | (with_reducible exact Below.refl _ _) | (with_reducible assumption) | (with_reducible refine Below.drew ?_) | (with_reducible refine Below.more ?_ _) | (with_reducible refine Below.put ?_ ?_ _) | (with_reducible refine Below.next ?_ (by with_reducible assumption)) | (with_reducible exact Nat.le_refl _) | (with_reducible refine Below.size' ?_) | omega))⟩)
  · go_enter Try.func53, Try.ntmps53
    go_wp2
    all_goals (go_returns; exact ⟨ret_bool (by rw [HR.out]; simp_all), (by repeat' (first | (with_reducible exact Below.refl _ _) | (with_reducible assumption) | (with_reducible refine Below.drew ?_) | (with_reducible refine Below.more ?_ _) | (with_reducible refine Below.put ?_ ?_ _) | (with_reducible refine Below.next ?_ (by with_reducible assumption)) | (with_reducible exact Nat.le_refl _) | (with_reducible refine Below.size' ?_) | omega))⟩)
theorem enter_report2 (args : Array Value) (w : World) : (callFunc 53 args).run Try.prog w = .ok (.enter 53 args) w := by kernel_rfl
end Go.Proofs.Ytoofmofaimdhpaa

namespace Go.Proofs.Ytoofmofaimdhpaa
open Go.ChangeShapes Go.WideShapes Go.ChangeAt Go.RowKit
set_option maxRecDepth 100000

theorem out_any (s : St) (r : Raw) (B : Nat) (id : Int) (w : World) (h : StAt w B r s) (hf : Fits s.leas) (hl2 : s.leas.length ≤ 900) (hid : (Lit.int .i64 id).wf = true) :
    Calls Try.prog 17 #[r.agg, .int .i64 id] w fun e w' => e = .returned (.int .i64 (outL s.leas id)) ∧ Below w.heap.size w w' := by
  have HOU := Lib.hid (fun w' (hb : Below w.heap.size w w') => outs_any s.leas r w' h.lea.len (by omega) hf (h.lea.row.below hb))
  have HW := Lib.hid hid
  obtain ⟨term, stamp, next, ⟨a1, n1, c1⟩, ⟨a2, n2, c2⟩, ⟨a3, n3, c3⟩, ⟨a4, n4, c4⟩⟩ := r
  have HZ : Hid (∀ f : Int → Option Int, (∀ i, (f i).getD 0 = outL s.leas i) → (f id).getD 0 = outL s.leas id) := fun f h => h id
  clear h hid
  go_enter Try.func17, Try.ntmps17
  go_wp2_with (first
    | (refine wpList_load_as laySt rfl (.tmp 2) rfl w.heap.size 0 rfl ⟨term, stamp, next, ⟨a1, n1, c1⟩, ⟨a2, n2, c2⟩, ⟨a3, n3, c3⟩, ⟨a4, n4, c4⟩⟩ (.agg #[.int .i64 term, .int .i64 stamp, .int .i64 next, .slice a1 n1 c1, .slice a2 n2 c2, .slice a3 n3 c3, .slice a4 n4 c4]) rfl (Box.of_alloc (Below.refl _ _)).range ?_)
    | (go_at_call 45; ((with_reducible refine (HOU.out _ (by repeat' (first | (with_reducible exact Below.refl _ _) | (with_reducible assumption) | (with_reducible refine Below.drew ?_) | (with_reducible refine Below.more ?_ _) | (with_reducible refine Below.put ?_ ?_ _) | (with_reducible refine Below.next ?_ (by with_reducible assumption)) | (with_reducible exact Nat.le_refl _) | (with_reducible refine Below.size' ?_) | omega))).mono ?_); rintro e w2 ⟨mb, mn, mf, rfl, hmap, hb2⟩; have HM := Lib.hid hmap; clear hmap))
    | (refine wpList_getI keyI Try.underlying77 Try.underlying3 zero_i rfl (.tmp 6) (.tmp 7) rfl mb mn mf rfl HM.out.map id HW.out rfl ?_; rw [HZ.out mf HM.out.out]))
  go_returns
  exact ⟨rfl, (by repeat' (first | (with_reducible exact Below.refl _ _) | (with_reducible assumption) | (with_reducible refine Below.drew ?_) | (with_reducible refine Below.more ?_ _) | (with_reducible refine Below.put ?_ ?_ _) | (with_reducible refine Below.next ?_ (by with_reducible assumption)) | (with_reducible exact Nat.le_refl _) | (with_reducible refine Below.size' ?_) | omega))⟩

def RetLF (w : World) (r : Lease × Bool) (e : Ending) (w' : World) : Prop := e = .returned (.tuple #[r.1.agg, .bool r.2]) ∧ Below w.heap.size w w'
theorem findSt_no {s : St} {id : Int} (h : s.leas.find? (fun x => x.id == id) = none) : findSt s id = (zeroLea, false) := by
  unfold findSt findLea findK
  rw [h]
  split <;> rfl
theorem findSt_bad {s : St} {id : Int} (h : stOk s = false) : findSt s id = (zeroLea, false) := by
  unfold findSt; rw [if_neg (by rw [h]; simp)]
theorem findSt_yes {s : St} {id : Int} {x : Lease} (h : stOk s = true) (hx : s.leas.find? (fun x => x.id == id) = some x) : findSt s id = (x, true) := by
  unfold findSt findLea findK; rw [if_pos h, hx]
theorem cellsLea0 {w : World} {b : Nat} {t : Lease} (h : w.rangeAt b 0 t.cells) : w.cell? ⟨b, 0, none⟩ = some (.int .i64 t.id) ∧ w.cell? ⟨b, 1, none⟩ = some (.int .i64 t.tenant) ∧ w.cell? ⟨b, 2, none⟩ = some (.int .i64 t.shaper) ∧ w.cell? ⟨b, 3, none⟩ = some (.int .i64 t.epoch) ∧ w.cell? ⟨b, 4, none⟩ = some (.int .i64 t.number) ∧ w.cell? ⟨b, 5, none⟩ = some (.int .i64 t.size) ∧ w.cell? ⟨b, 6, none⟩ = some (.int .i64 t.spent) := by
  have := cellsLea h
  simp only [Nat.zero_add] at this
  exact this

set_option maxHeartbeats 4000000 in
theorem find_st (s : St) (r : Raw) (B : Nat) (id : Int) (w : World) (h : StAt w B r s) (hl1 : s.tens.length ≤ 900) (hl2 : s.leas.length ≤ 900) :
    Calls Try.prog 14 #[r.agg, .int .i64 id] w (RetLF w (findSt s id)) := by
  have hmf : ∀ (fn : Fn) (first cap : Array Value) (w : World), (Instr.makeFunc fn first cap).run Try.prog w = .ok (.func fn first cap) w := fun _ _ _ _ => rfl
  have HCK := Lib.hid (fun w' (hb : Below w.heap.size w w') => check_st s r B w' (h.below hb) hl1 hl2)
  have HPL := Lib.hid (fun g w' (hb : Below w.heap.size w w') (hc : w'.cell? ⟨g, 0, none⟩ = some (.int .i64 id)) => place_lea s.leas r.lea.a r.lea.n r.lea.c 42 #[.pointer (some ⟨g, 0, none⟩)] (fun x => x.id == id) w' h.lea.len (le_maxLen (by have := h.lea.len; omega)) (h.lea.row.below hb) enter_lfind1
    (fun x _ w'' hb' => lfind1_any x id g w'' ((hb'.cell (p := ⟨g, 0, none⟩) (World.block_lt_of_cell? w' _ hc)).trans hc)))
  have HN := Lib.hid (findSt_no (s := s) (id := id))
  have HB := Lib.hid (findSt_bad (s := s) (id := id))
  have HY := Lib.hid (fun x h1 h2 => findSt_yes (s := s) (id := id) (x := x) h1 h2)
  generalize findSt s id = res at HN HB HY ⊢
  have hr := h.lea.row
  have hn2 : s.leas.length = r.lea.n := h.lea.len
  obtain ⟨term, stamp, next, ⟨a1, n1, c1⟩, ⟨a2, n2, c2⟩, ⟨a3, n3, c3⟩, ⟨a4, n4, c4⟩⟩ := r
  simp only at hn2 hr
  subst hn2
  clear h
  have HBX : Hid (∀ w', Below (((w.alloc (.cells #[.int .i64 term, .int .i64 stamp, .int .i64 next, .slice a1 n1 c1, .slice a2 s.leas.length c2, .slice a3 n3 c3, .slice a4 n4 c4] 27)).alloc (.cells #[.int .i64 id] 3)).alloc (.cells #[.int .i64 0, .int .i64 0, .int .i64 0, .int .i64 0, .int .i64 0, .int .i64 0, .int .i64 0] 38)).heap.size (((w.alloc (.cells #[.int .i64 term, .int .i64 stamp, .int .i64 next, .slice a1 n1 c1, .slice a2 s.leas.length c2, .slice a3 n3 c3, .slice a4 n4 c4] 27)).alloc (.cells #[.int .i64 id] 3)).alloc (.cells #[.int .i64 0, .int .i64 0, .int .i64 0, .int .i64 0, .int .i64 0, .int .i64 0, .int .i64 0] 38)) w' →
      Box w' w.heap.size (Raw.cells ⟨term, stamp, next, ⟨a1, n1, c1⟩, ⟨a2, s.leas.length, c2⟩, ⟨a3, n3, c3⟩, ⟨a4, n4, c4⟩⟩) ∧ Box w' (w.heap.size + 1) [.int .i64 id] ∧ Box w' (w.heap.size + 1 + 1) (Lease.cells zeroLea)) :=
    fun w' hb => ⟨Box.of_alloc (mid_alloc' (mid_alloc' hb)), Box.of_alloc1 (mid_alloc' hb), Box.of_alloc2 hb⟩
  rcases idxL_find (fun x : Lease => x.id == id) s.leas with ⟨h1, h2⟩ | ⟨k, hk, h1, h2⟩
  · have HI := Lib.hid h1
    have HO := Lib.hid (HN.out h2)
    clear h1 h2
    go_enter Try.func14, Try.ntmps14
    go_wp2_with (first
      | (go_at_call 41; have hpl := HPL.out (w.heap.size + 1) _ (show Below w.heap.size w _ from (by repeat' (first | (with_reducible exact Below.refl _ _) | (with_reducible assumption) | (with_reducible refine Below.drew ?_) | (with_reducible refine Below.more ?_ _) | (with_reducible refine Below.put ?_ ?_ _) | (with_reducible refine Below.next ?_ (by with_reducible assumption)) | (with_reducible exact Nat.le_refl _) | (with_reducible refine Below.size' ?_) | omega))) ((HBX.out _ (Below.refl _ _)).2.1.cell (j := 0) rfl); ((with_reducible refine hpl.mono ?_); clear hpl; rw [HI.out]; rintro e w3 ⟨rfl, hb3⟩; have HX3 := Lib.hid (HBX.out w3 (by repeat' (first | (with_reducible exact Below.refl _ _) | (with_reducible assumption) | (with_reducible refine Below.drew ?_) | (with_reducible refine Below.more ?_ _) | (with_reducible refine Below.put ?_ ?_ _) | (with_reducible refine Below.next ?_ (by with_reducible assumption)) | (with_reducible exact Nat.le_refl _) | (with_reducible refine Below.size' ?_) | omega)))))
      | (refine wpList_store_whole layLea rfl (.tmp 4) (.tmp 25) rfl (w.heap.size + 1 + 1) zeroLea _ rfl rfl HX3.out.2.2 rfl ?_; intro w4 hbx4 hw4; have HX4 := Lib.hid hbx4; have HW4 := Lib.hid hw4; clear hbx4 hw4))
    have b4 : Below w.heap.size w w4 := Below.trans (show Below w.heap.size w w3 from (by repeat' (first | (with_reducible exact Below.refl _ _) | (with_reducible assumption) | (with_reducible refine Below.drew ?_) | (with_reducible refine Below.more ?_ _) | (with_reducible refine Below.put ?_ ?_ _) | (with_reducible refine Below.next ?_ (by with_reducible assumption)) | (with_reducible exact Nat.le_refl _) | (with_reducible refine Below.size' ?_) | omega))) (HW4.out.below _ (by omega))
    obtain ⟨j0, j1, j2, j3, j4, j5, j6⟩ := cellsLea0 HX4.out.range
    refine bodyPost_ret (v := .tuple #[Lease.agg zeroLea, .bool false]) (by simp [results, Try.results14, go_sem, j0, j1, j2, j3, j4, j5, j6]) rfl ?_
    exact ⟨by rw [HO.out], b4⟩
  · have HI := Lib.hid h1
    obtain ⟨b, o, ha2, hcs⟩ := LRow.range hr hk
    subst ha2
    have HRG := Lib.hid (fun w' hb => hcs w' hb)
    have HKL := Lib.hid hk
    have hd : decide ((0 : Int) ≤ (k : Int)) = true := decide_eq_true (by omega)
    cases hok : stOk s with
    | false =>
      have HOK := Lib.hid hok
      have HO := Lib.hid (HB.out hok)
      clear h1 h2 hok
      go_enter Try.func14, Try.ntmps14
      go_wp2_with (first
        | (go_at_call 41; have hpl := HPL.out (w.heap.size + 1) _ (show Below w.heap.size w _ from (by repeat' (first | (with_reducible exact Below.refl _ _) | (with_reducible assumption) | (with_reducible refine Below.drew ?_) | (with_reducible refine Below.more ?_ _) | (with_reducible refine Below.put ?_ ?_ _) | (with_reducible refine Below.next ?_ (by with_reducible assumption)) | (with_reducible exact Nat.le_refl _) | (with_reducible refine Below.size' ?_) | omega))) ((HBX.out _ (Below.refl _ _)).2.1.cell (j := 0) rfl); ((with_reducible refine hpl.mono ?_); clear hpl; rw [HI.out]; rintro e w3 ⟨rfl, hb3⟩; have hs3 := (HBX.out w3 (by repeat' (first | (with_reducible exact Below.refl _ _) | (with_reducible assumption) | (with_reducible refine Below.drew ?_) | (with_reducible refine Below.more ?_ _) | (with_reducible refine Below.put ?_ ?_ _) | (with_reducible refine Below.next ?_ (by with_reducible assumption)) | (with_reducible exact Nat.le_refl _) | (with_reducible refine Below.size' ?_) | omega))).1; have HX3 := Lib.hid (HBX.out w3 (by repeat' (first | (with_reducible exact Below.refl _ _) | (with_reducible assumption) | (with_reducible refine Below.drew ?_) | (with_reducible refine Below.more ?_ _) | (with_reducible refine Below.put ?_ ?_ _) | (with_reducible refine Below.next ?_ (by with_reducible assumption)) | (with_reducible exact Nat.le_refl _) | (with_reducible refine Below.size' ?_) | omega)))))
        | (refine wpList_load_as laySt rfl (.tmp 2) rfl w.heap.size 0 rfl ⟨term, stamp, next, ⟨a1, n1, c1⟩, ⟨some ⟨b, o, none⟩, s.leas.length, c2⟩, ⟨a3, n3, c3⟩, ⟨a4, n4, c4⟩⟩ (.agg #[.int .i64 term, .int .i64 stamp, .int .i64 next, .slice a1 n1 c1, .slice (some ⟨b, o, none⟩) s.leas.length c2, .slice a3 n3 c3, .slice a4 n4 c4]) rfl HX3.out.1.range ?_)
        | (refine wpList_strip (by rfl) ?_; refine wpList_load_as laySt rfl (.tmp 2) rfl w.heap.size 0 rfl ⟨term, stamp, next, ⟨a1, n1, c1⟩, ⟨some ⟨b, o, none⟩, s.leas.length, c2⟩, ⟨a3, n3, c3⟩, ⟨a4, n4, c4⟩⟩ (.agg #[.int .i64 term, .int .i64 stamp, .int .i64 next, .slice a1 n1 c1, .slice (some ⟨b, o, none⟩) s.leas.length c2, .slice a3 n3 c3, .slice a4 n4 c4]) rfl HX3.out.1.range ?_)
        | (go_at_call 19; ((with_reducible refine (HCK.out w3 (by repeat' (first | (with_reducible exact Below.refl _ _) | (with_reducible assumption) | (with_reducible refine Below.drew ?_) | (with_reducible refine Below.more ?_ _) | (with_reducible refine Below.put ?_ ?_ _) | (with_reducible refine Below.next ?_ (by with_reducible assumption)) | (with_reducible exact Nat.le_refl _) | (with_reducible refine Below.size' ?_) | omega))).mono ?_); rw [HOK.out]; rintro e w3b ⟨rfl, hb3b⟩; have HX3b := Lib.hid (HBX.out w3b (by repeat' (first | (with_reducible exact Below.refl _ _) | (with_reducible assumption) | (with_reducible refine Below.drew ?_) | (with_reducible refine Below.more ?_ _) | (with_reducible refine Below.put ?_ ?_ _) | (with_reducible refine Below.next ?_ (by with_reducible assumption)) | (with_reducible exact Nat.le_refl _) | (with_reducible refine Below.size' ?_) | omega)))))
        | (refine wpList_store_whole layLea rfl (.tmp 4) (.tmp 25) rfl (w.heap.size + 1 + 1) zeroLea _ rfl rfl HX3b.out.2.2 rfl ?_; intro w4 hbx4 hw4; have HX4 := Lib.hid hbx4; have HW4 := Lib.hid hw4; clear hbx4 hw4))
      have b4 : Below w.heap.size w w4 := Below.trans (show Below w.heap.size w w3b from (by repeat' (first | (with_reducible exact Below.refl _ _) | (with_reducible assumption) | (with_reducible refine Below.drew ?_) | (with_reducible refine Below.more ?_ _) | (with_reducible refine Below.put ?_ ?_ _) | (with_reducible refine Below.next ?_ (by with_reducible assumption)) | (with_reducible exact Nat.le_refl _) | (with_reducible refine Below.size' ?_) | omega))) (HW4.out.below _ (by omega))
      obtain ⟨j0, j1, j2, j3, j4, j5, j6⟩ := cellsLea0 HX4.out.range
      refine bodyPost_ret (v := .tuple #[Lease.agg zeroLea, .bool false]) (by simp [results, Try.results14, go_sem, j0, j1, j2, j3, j4, j5, j6]) rfl ?_
      exact ⟨by rw [HO.out], b4⟩
    | true =>
      have HOK := Lib.hid hok
      have HO := Lib.hid (HY.out _ hok h2)
      clear h1 h2 hok
      have hkl : (k : Int) < (s.leas.length : Int) := by omega
      generalize s.leas[k] = x at HRG HO
      go_enter Try.func14, Try.ntmps14
      go_wp2_with (first
        | (go_at_call 41; have hpl := HPL.out (w.heap.size + 1) _ (show Below w.heap.size w _ from (by repeat' (first | (with_reducible exact Below.refl _ _) | (with_reducible assumption) | (with_reducible refine Below.drew ?_) | (with_reducible refine Below.more ?_ _) | (with_reducible refine Below.put ?_ ?_ _) | (with_reducible refine Below.next ?_ (by with_reducible assumption)) | (with_reducible exact Nat.le_refl _) | (with_reducible refine Below.size' ?_) | omega))) ((HBX.out _ (Below.refl _ _)).2.1.cell (j := 0) rfl); ((with_reducible refine hpl.mono ?_); clear hpl; rw [HI.out]; rintro e w3 ⟨rfl, hb3⟩; have hs3 := (HBX.out w3 (by repeat' (first | (with_reducible exact Below.refl _ _) | (with_reducible assumption) | (with_reducible refine Below.drew ?_) | (with_reducible refine Below.more ?_ _) | (with_reducible refine Below.put ?_ ?_ _) | (with_reducible refine Below.next ?_ (by with_reducible assumption)) | (with_reducible exact Nat.le_refl _) | (with_reducible refine Below.size' ?_) | omega))).1; have HX3 := Lib.hid (HBX.out w3 (by repeat' (first | (with_reducible exact Below.refl _ _) | (with_reducible assumption) | (with_reducible refine Below.drew ?_) | (with_reducible refine Below.more ?_ _) | (with_reducible refine Below.put ?_ ?_ _) | (with_reducible refine Below.next ?_ (by with_reducible assumption)) | (with_reducible exact Nat.le_refl _) | (with_reducible refine Below.size' ?_) | omega)))))
        | (refine wpList_load_as laySt rfl (.tmp 2) rfl w.heap.size 0 rfl ⟨term, stamp, next, ⟨a1, n1, c1⟩, ⟨some ⟨b, o, none⟩, s.leas.length, c2⟩, ⟨a3, n3, c3⟩, ⟨a4, n4, c4⟩⟩ (.agg #[.int .i64 term, .int .i64 stamp, .int .i64 next, .slice a1 n1 c1, .slice (some ⟨b, o, none⟩) s.leas.length c2, .slice a3 n3 c3, .slice a4 n4 c4]) rfl HX3.out.1.range ?_)
        | (refine wpList_strip (by rfl) ?_; refine wpList_load_as laySt rfl (.tmp 2) rfl w.heap.size 0 rfl ⟨term, stamp, next, ⟨a1, n1, c1⟩, ⟨some ⟨b, o, none⟩, s.leas.length, c2⟩, ⟨a3, n3, c3⟩, ⟨a4, n4, c4⟩⟩ (.agg #[.int .i64 term, .int .i64 stamp, .int .i64 next, .slice a1 n1 c1, .slice (some ⟨b, o, none⟩) s.leas.length c2, .slice a3 n3 c3, .slice a4 n4 c4]) rfl HX3.out.1.range ?_)
        | (go_at_call 19; ((with_reducible refine (HCK.out w3 (by repeat' (first | (with_reducible exact Below.refl _ _) | (with_reducible assumption) | (with_reducible refine Below.drew ?_) | (with_reducible refine Below.more ?_ _) | (with_reducible refine Below.put ?_ ?_ _) | (with_reducible refine Below.next ?_ (by with_reducible assumption)) | (with_reducible exact Nat.le_refl _) | (with_reducible refine Below.size' ?_) | omega))).mono ?_); rw [HOK.out]; rintro e w3b ⟨rfl, hb3b⟩; have HX3b := Lib.hid (HBX.out w3b (by repeat' (first | (with_reducible exact Below.refl _ _) | (with_reducible assumption) | (with_reducible refine Below.drew ?_) | (with_reducible refine Below.more ?_ _) | (with_reducible refine Below.put ?_ ?_ _) | (with_reducible refine Below.next ?_ (by with_reducible assumption)) | (with_reducible exact Nat.le_refl _) | (with_reducible refine Below.size' ?_) | omega))); have hq3b : Below w.heap.size w w3b := (by repeat' (first | (with_reducible exact Below.refl _ _) | (with_reducible assumption) | (with_reducible refine Below.drew ?_) | (with_reducible refine Below.more ?_ _) | (with_reducible refine Below.put ?_ ?_ _) | (with_reducible refine Below.next ?_ (by with_reducible assumption)) | (with_reducible exact Nat.le_refl _) | (with_reducible refine Below.size' ?_) | omega)); have k4 := HX3b.out.1.cell (j := 4) rfl))
        | (refine wpList_load_lay layLea rfl (.tmp 23) rfl b (o + k * layLea.size) rfl x (HRG.out w3b hq3b) ?_)
        | (refine wpList_store_whole layLea rfl (.tmp 4) (.tmp 24) rfl (w.heap.size + 1 + 1) x _ rfl rfl HX3b.out.2.2 rfl ?_; intro w4 hbx4 hw4; have HX4 := Lib.hid hbx4; have HW4 := Lib.hid hw4; clear hbx4 hw4))
      have b4 : Below w.heap.size w w4 := Below.trans (show Below w.heap.size w w3b from (by repeat' (first | (with_reducible exact Below.refl _ _) | (with_reducible assumption) | (with_reducible refine Below.drew ?_) | (with_reducible refine Below.more ?_ _) | (with_reducible refine Below.put ?_ ?_ _) | (with_reducible refine Below.next ?_ (by with_reducible assumption)) | (with_reducible exact Nat.le_refl _) | (with_reducible refine Below.size' ?_) | omega))) (HW4.out.below _ (by omega))
      obtain ⟨j0, j1, j2, j3, j4, j5, j6⟩ := cellsLea0 HX4.out.range
      refine bodyPost_ret (v := .tuple #[Lease.agg x, .bool true]) (by simp [results, Try.results14, go_sem, j0, j1, j2, j3, j4, j5, j6]) rfl ?_
      exact ⟨by rw [HO.out], b4⟩
end Go.Proofs.Ytoofmofaimdhpaa
