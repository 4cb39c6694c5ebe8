import Derived.Test.YtnpbajmpenpnbaaNever
namespace Go.Proofs.Ytnpbajmpenpnbaa
open Go.ChangeShapes Go.WideShapes Go.ChangeAt Go.RowKit

set_option maxHeartbeats 4000000 in
theorem law_never_ok (a : Option Addr) (ts : List Tenant) (c : Nat) (id rate burst out other : Int) (w : World) (hc : a = none → c = 0) (hnc : ts.length ≤ c) (hr : TRow w a ts) (hl : ts.length ≤ 60) (ht : tensOk 0 ts = true)
    (he : (putS ts id rate burst out).2.e = 0) :
    Calls Try.prog 5 #[.slice a ts.length c, .int .i64 id, .int .i64 rate, .int .i64 burst, .int .i64 out, .int .i64 other] w fun e w' => e = .returned (.bool true) ∧ Below w.heap.size w w' := by
  have hmax : ts.length ≤ maxLen := le_maxLen (by omega)
  have HT := Lib.hid ht
  have HG : Hid (¬ 60 < ts.length) := by show ¬ _; omega
  obtain ⟨f1, f2, f3, f4, f5⟩ := putS_facts ht he
  have hlr := putS_length ts id rate burst out
  have HP : Hid (putS ts id rate burst out = ((putS ts id rate burst out).1, ⟨0, rate, burst, 0, 0⟩)) := by rw [← f1]; exact rfl
  clear he f1
  generalize (putS ts id rate burst out).1 = r at *
  obtain ⟨g1, g2, g3, _⟩ := deleteS_facts (id := id) (out := out) f2
  obtain ⟨g3, g4⟩ := g3 (by rw [f5])
  have hld := deleteS_length r id out
  rcases hd : deleteS r id out with ⟨d, ⟨de, dr, db, dl, dz⟩⟩
  rw [hd] at g1 g2 g3 g4 hld
  simp only at g1 g2 g3 g4 hld
  have HD := Lib.hid hd
  have HTR := Lib.hid f2
  have HTD := Lib.hid g1
  have HGR := Lib.hid f5
  have HB0 := Lib.hid g3
  have HO := Lib.hid fun h : other ≠ id => f4 other h
  have HO2 := Lib.hid fun h : other ≠ id => g2 other h
  rcases hgd : getS d id with ⟨ge, gr, gb, gl, gz⟩
  rw [hgd] at g4
  simp only at g4
  subst g4
  have HGD := Lib.hid hgd
  rcases hgo : getS ts other with ⟨oe, or, ob, ol, oz⟩
  have HGO := Lib.hid hgo
  have hrm : r.length ≤ maxLen := le_maxLen (by omega)
  have hdm : d.length ≤ maxLen := le_maxLen (by omega)
  clear hd ht f2 f4 f5 g1 g2 g3 hgd hgo
  have HBR : Hid (∃ x, bucketL r id = x) := ⟨_, rfl⟩
  obtain ⟨br, hbr⟩ := HBR.out
  obtain ⟨bt, hbt⟩ : ∃ x, bucketL ts id = x := ⟨_, rfl⟩
  obtain ⟨bo, hbo⟩ : ∃ x, bucketL ts other = x := ⟨_, rfl⟩
  rw [hbr, hbt] at f3
  have f6 : decide (bt < br) = false := decide_eq_false (by omega)
  have HR1 := Lib.hid hbr
  have HT1 := Lib.hid hbt
  have HT2 := Lib.hid hbo
  clear hbr hbt hbo HBR
  have HE1 := aeql_same 0 rate burst 0 0
  have HE2 := aneq_same oe or ob ol oz
  have HAF := afield_run
  have HSUB : Hid (other ≠ id → bucketL r other = bo ∧ getS d other = ⟨oe, or, ob, ol, oz⟩) := fun h => by
    rw [bucketL_other (HO.out h), HT2.out, getS_other (HTR.out) HTD.out ((HO2.out h)), getS_other HT.out HTR.out (HO.out h), HGO.out]
    exact ⟨rfl, rfl⟩
  clear HO HO2
  cases hne : other != id with
  | true =>
    have HS := Lib.hid (HSUB.out (by simpa using hne))
    clear HSUB
    go_enter Try.func5, Try.ntmps5
    go_wp2_with (first
      | (go_at_call 7; ((with_reducible refine (great_any _ _ _ _ false (decide_eq_false HG.out)).mono ?_); rintro e w0 ⟨rfl, rfl⟩))
      | (go_at_call 12; ((with_reducible refine (check_any ts a _ _ _ rfl hmax (hr.below (by repeat' (first | (with_reducible exact Below.refl _ _) | (with_reducible assumption) | (with_reducible refine Below.drew ?_) | (with_reducible refine Below.more ?_ _) | (with_reducible refine Below.put ?_ ?_ _) | (with_reducible refine Below.next ?_ (by with_reducible assumption)) | (with_reducible exact Nat.le_refl _) | (with_reducible refine Below.size' ?_) | omega)))).mono ?_); rw [HT.out]; rintro e w1 ⟨rfl, hb⟩))
      | (at_builtin; refine wpList_can el_tenants rfl (.tmp 26) (.tmp 27) rfl w1.heap.size _ 0 _ _ rfl (Can.empty _ _ _ _ _) _ ts.length _ (ts.flatMap Tenant.cells) rfl (TRow.length _) (Row.alloc (hr.below hb) _) (tcells_one _) (by omega) (by simp) ?_; intro av cv w2 hcan2 _ hb2 _; replace hb2 := ((Below.refl _ _).alloc (Nat.le_refl _) _).trans hb2; rw [Nat.zero_add, List.nil_append] at hcan2; have hwas : TRow w2 av ts := hcan2.row; clear hcan2)
      | (go_at_call 9; ((with_reducible refine (pput_any ts _ _ _ _ _ _ _ _ rfl (by omega) hc hnc (hr.below (by repeat' (first | (with_reducible exact Below.refl _ _) | (with_reducible assumption) | (with_reducible refine Below.drew ?_) | (with_reducible refine Below.more ?_ _) | (with_reducible refine Below.put ?_ ?_ _) | (with_reducible refine Below.next ?_ (by with_reducible assumption)) | (with_reducible exact Nat.le_refl _) | (with_reducible refine Below.size' ?_) | omega)))).mono ?_); rw [HP.out]; rintro e w3 ⟨a3, c3, rfl, hc3, hn3, _, hr3, hb3⟩))
      | (go_at_call 14; ((with_reducible refine (pdelete_any r _ _ _ _ _ _ rfl (by omega) hn3 hc3 (Row.alloc hr3 _)).mono ?_); rw [HD.out]; rintro e w4 ⟨a4, c4, rfl, hc4, hn4, _, hr4, hb4⟩))
      | (go_at_call 12; ((with_reducible refine (check_any r a3 _ _ _ rfl hrm (hr3.below (by repeat' (first | (with_reducible exact Below.refl _ _) | (with_reducible assumption) | (with_reducible refine Below.drew ?_) | (with_reducible refine Below.more ?_ _) | (with_reducible refine Below.put ?_ ?_ _) | (with_reducible refine Below.next ?_ (by with_reducible assumption)) | (with_reducible exact Nat.le_refl _) | (with_reducible refine Below.size' ?_) | omega)))).mono ?_); rw [HTR.out]; rintro e w5 ⟨rfl, hb5⟩))
      | (go_at_call 12; ((with_reducible refine (check_any d a4 _ _ _ rfl hdm (hr4.below (by repeat' (first | (with_reducible exact Below.refl _ _) | (with_reducible assumption) | (with_reducible refine Below.drew ?_) | (with_reducible refine Below.more ?_ _) | (with_reducible refine Below.put ?_ ?_ _) | (with_reducible refine Below.next ?_ (by with_reducible assumption)) | (with_reducible exact Nat.le_refl _) | (with_reducible refine Below.size' ?_) | omega)))).mono ?_); rw [HTD.out]; rintro e w6 ⟨rfl, hb6⟩))
      | (go_at_call 18; ((with_reducible refine (bucket_any r a3 _ _ id _ rfl hrm (hr3.below (by repeat' (first | (with_reducible exact Below.refl _ _) | (with_reducible assumption) | (with_reducible refine Below.drew ?_) | (with_reducible refine Below.more ?_ _) | (with_reducible refine Below.put ?_ ?_ _) | (with_reducible refine Below.next ?_ (by with_reducible assumption)) | (with_reducible exact Nat.le_refl _) | (with_reducible refine Below.size' ?_) | omega)))).mono ?_); rw [HR1.out]; rintro e w7 ⟨rfl, hb7⟩))
      | (go_at_call 18; ((with_reducible refine (bucket_any ts a _ _ id _ rfl hmax (hr.below (by repeat' (first | (with_reducible exact Below.refl _ _) | (with_reducible assumption) | (with_reducible refine Below.drew ?_) | (with_reducible refine Below.more ?_ _) | (with_reducible refine Below.put ?_ ?_ _) | (with_reducible refine Below.next ?_ (by with_reducible assumption)) | (with_reducible exact Nat.le_refl _) | (with_reducible refine Below.size' ?_) | omega)))).mono ?_); rw [HT1.out]; rintro e w8 ⟨rfl, hb8⟩))
      | (go_at_call 18; ((with_reducible refine (bucket_any d a4 _ _ id _ rfl hdm (hr4.below (by repeat' (first | (with_reducible exact Below.refl _ _) | (with_reducible assumption) | (with_reducible refine Below.drew ?_) | (with_reducible refine Below.more ?_ _) | (with_reducible refine Below.put ?_ ?_ _) | (with_reducible refine Below.next ?_ (by with_reducible assumption)) | (with_reducible exact Nat.le_refl _) | (with_reducible refine Below.size' ?_) | omega)))).mono ?_); rw [HB0.out]; rintro e w9 ⟨rfl, hb9⟩))
      | (go_at_call 11; ((with_reducible refine (same_any ts ts av a _ _ _ _ _ rfl rfl hmax hmax (hwas.below (by repeat' (first | (with_reducible exact Below.refl _ _) | (with_reducible assumption) | (with_reducible refine Below.drew ?_) | (with_reducible refine Below.more ?_ _) | (with_reducible refine Below.put ?_ ?_ _) | (with_reducible refine Below.next ?_ (by with_reducible assumption)) | (with_reducible exact Nat.le_refl _) | (with_reducible refine Below.size' ?_) | omega))) (hr.below (by repeat' (first | (with_reducible exact Below.refl _ _) | (with_reducible assumption) | (with_reducible refine Below.drew ?_) | (with_reducible refine Below.more ?_ _) | (with_reducible refine Below.put ?_ ?_ _) | (with_reducible refine Below.next ?_ (by with_reducible assumption)) | (with_reducible exact Nat.le_refl _) | (with_reducible refine Below.size' ?_) | omega)))).mono ?_); rw [decide_eq_true (rfl : ts = ts)]; rintro e w10 ⟨rfl, hb10⟩; have hx3 := own_cells (w := w3) (c := #[.int .i64 0, .int .i64 rate, .int .i64 burst, .int .i64 0, .int .i64 0]) (e := 27) (w' := w10) (by repeat' (first | (with_reducible exact Below.refl _ _) | (with_reducible assumption) | (with_reducible refine Below.drew ?_) | (with_reducible refine Below.more ?_ _) | (with_reducible refine Below.put ?_ ?_ _) | (with_reducible refine Below.next ?_ (by with_reducible assumption)) | (with_reducible exact Nat.le_refl _) | (with_reducible refine Below.size' ?_) | omega))))
      | (go_at_call 18; ((with_reducible refine (bucket_any r a3 _ _ other _ rfl hrm (hr3.below (by repeat' (first | (with_reducible exact Below.refl _ _) | (with_reducible assumption) | (with_reducible refine Below.drew ?_) | (with_reducible refine Below.more ?_ _) | (with_reducible refine Below.put ?_ ?_ _) | (with_reducible refine Below.next ?_ (by with_reducible assumption)) | (with_reducible exact Nat.le_refl _) | (with_reducible refine Below.size' ?_) | omega)))).mono ?_); rw [HS.out.1]; rintro e w11 ⟨rfl, hb11⟩))
      | (go_at_call 18; ((with_reducible refine (bucket_any ts a _ _ other _ rfl hmax (hr.below (by repeat' (first | (with_reducible exact Below.refl _ _) | (with_reducible assumption) | (with_reducible refine Below.drew ?_) | (with_reducible refine Below.more ?_ _) | (with_reducible refine Below.put ?_ ?_ _) | (with_reducible refine Below.next ?_ (by with_reducible assumption)) | (with_reducible exact Nat.le_refl _) | (with_reducible refine Below.size' ?_) | omega)))).mono ?_); rw [HT2.out]; rintro e w12 ⟨rfl, hb12⟩))
      | (go_at_call 16; ((with_reducible refine (pget_any d a4 _ _ other _ rfl hdm (hr4.below (by repeat' (first | (with_reducible exact Below.refl _ _) | (with_reducible assumption) | (with_reducible refine Below.drew ?_) | (with_reducible refine Below.more ?_ _) | (with_reducible refine Below.put ?_ ?_ _) | (with_reducible refine Below.next ?_ (by with_reducible assumption)) | (with_reducible exact Nat.le_refl _) | (with_reducible refine Below.size' ?_) | omega)))).mono ?_); rw [HS.out.2]; rintro e w13 ⟨rfl, hb13⟩))
      | (go_at_call 16; ((with_reducible refine (pget_any ts a _ _ other _ rfl hmax (hr.below (by repeat' (first | (with_reducible exact Below.refl _ _) | (with_reducible assumption) | (with_reducible refine Below.drew ?_) | (with_reducible refine Below.more ?_ _) | (with_reducible refine Below.put ?_ ?_ _) | (with_reducible refine Below.next ?_ (by with_reducible assumption)) | (with_reducible exact Nat.le_refl _) | (with_reducible refine Below.size' ?_) | omega)))).mono ?_); rw [HGO.out]; rintro e w14 ⟨rfl, hb14⟩; have hx4 := own_cells (w := w3) (c := #[.int .i64 0, .int .i64 rate, .int .i64 burst, .int .i64 0, .int .i64 0]) (e := 27) (w' := w14) (by repeat' (first | (with_reducible exact Below.refl _ _) | (with_reducible assumption) | (with_reducible refine Below.drew ?_) | (with_reducible refine Below.more ?_ _) | (with_reducible refine Below.put ?_ ?_ _) | (with_reducible refine Below.next ?_ (by with_reducible assumption)) | (with_reducible exact Nat.le_refl _) | (with_reducible refine Below.size' ?_) | omega))))
      | (go_at_call 16; ((with_reducible refine (pget_any r a3 _ _ id _ rfl hrm (hr3.below (by repeat' (first | (with_reducible exact Below.refl _ _) | (with_reducible assumption) | (with_reducible refine Below.drew ?_) | (with_reducible refine Below.more ?_ _) | (with_reducible refine Below.put ?_ ?_ _) | (with_reducible refine Below.next ?_ (by with_reducible assumption)) | (with_reducible exact Nat.le_refl _) | (with_reducible refine Below.size' ?_) | omega)))).mono ?_); rw [HGR.out]; rintro e w15 ⟨rfl, hb15⟩))
      | (go_at_call 16; ((with_reducible refine (pget_any d a4 _ _ id _ rfl hdm (hr4.below (by repeat' (first | (with_reducible exact Below.refl _ _) | (with_reducible assumption) | (with_reducible refine Below.drew ?_) | (with_reducible refine Below.more ?_ _) | (with_reducible refine Below.put ?_ ?_ _) | (with_reducible refine Below.next ?_ (by with_reducible assumption)) | (with_reducible exact Nat.le_refl _) | (with_reducible refine Below.size' ?_) | omega)))).mono ?_); rw [HGD.out]; rintro e w16 ⟨rfl, hb16⟩))
      | (go_at_call 8; ((with_reducible refine (wakes_any _).mono ?_); rintro e w17 ⟨rfl, hb17⟩)))
    go_returns
    exact ⟨rfl, (by repeat' (first | (with_reducible exact Below.refl _ _) | (with_reducible assumption) | (with_reducible refine Below.drew ?_) | (with_reducible refine Below.more ?_ _) | (with_reducible refine Below.put ?_ ?_ _) | (with_reducible refine Below.next ?_ (by with_reducible assumption)) | (with_reducible exact Nat.le_refl _) | (with_reducible refine Below.size' ?_) | omega))⟩
  | false =>
    go_enter Try.func5, Try.ntmps5
    go_wp2_with (first
      | (go_at_call 7; ((with_reducible refine (great_any _ _ _ _ false (decide_eq_false HG.out)).mono ?_); rintro e w0 ⟨rfl, rfl⟩))
      | (go_at_call 12; ((with_reducible refine (check_any ts a _ _ _ rfl hmax (hr.below (by repeat' (first | (with_reducible exact Below.refl _ _) | (with_reducible assumption) | (with_reducible refine Below.drew ?_) | (with_reducible refine Below.more ?_ _) | (with_reducible refine Below.put ?_ ?_ _) | (with_reducible refine Below.next ?_ (by with_reducible assumption)) | (with_reducible exact Nat.le_refl _) | (with_reducible refine Below.size' ?_) | omega)))).mono ?_); rw [HT.out]; rintro e w1 ⟨rfl, hb⟩))
      | (at_builtin; refine wpList_can el_tenants rfl (.tmp 26) (.tmp 27) rfl w1.heap.size _ 0 _ _ rfl (Can.empty _ _ _ _ _) _ ts.length _ (ts.flatMap Tenant.cells) rfl (TRow.length _) (Row.alloc (hr.below hb) _) (tcells_one _) (by omega) (by simp) ?_; intro av cv w2 hcan2 _ hb2 _; replace hb2 := ((Below.refl _ _).alloc (Nat.le_refl _) _).trans hb2; rw [Nat.zero_add, List.nil_append] at hcan2; have hwas : TRow w2 av ts := hcan2.row; clear hcan2)
      | (go_at_call 9; ((with_reducible refine (pput_any ts _ _ _ _ _ _ _ _ rfl (by omega) hc hnc (hr.below (by repeat' (first | (with_reducible exact Below.refl _ _) | (with_reducible assumption) | (with_reducible refine Below.drew ?_) | (with_reducible refine Below.more ?_ _) | (with_reducible refine Below.put ?_ ?_ _) | (with_reducible refine Below.next ?_ (by with_reducible assumption)) | (with_reducible exact Nat.le_refl _) | (with_reducible refine Below.size' ?_) | omega)))).mono ?_); rw [HP.out]; rintro e w3 ⟨a3, c3, rfl, hc3, hn3, _, hr3, hb3⟩))
      | (go_at_call 14; ((with_reducible refine (pdelete_any r _ _ _ _ _ _ rfl (by omega) hn3 hc3 (Row.alloc hr3 _)).mono ?_); rw [HD.out]; rintro e w4 ⟨a4, c4, rfl, hc4, hn4, _, hr4, hb4⟩))
      | (go_at_call 12; ((with_reducible refine (check_any r a3 _ _ _ rfl hrm (hr3.below (by repeat' (first | (with_reducible exact Below.refl _ _) | (with_reducible assumption) | (with_reducible refine Below.drew ?_) | (with_reducible refine Below.more ?_ _) | (with_reducible refine Below.put ?_ ?_ _) | (with_reducible refine Below.next ?_ (by with_reducible assumption)) | (with_reducible exact Nat.le_refl _) | (with_reducible refine Below.size' ?_) | omega)))).mono ?_); rw [HTR.out]; rintro e w5 ⟨rfl, hb5⟩))
      | (go_at_call 12; ((with_reducible refine (check_any d a4 _ _ _ rfl hdm (hr4.below (by repeat' (first | (with_reducible exact Below.refl _ _) | (with_reducible assumption) | (with_reducible refine Below.drew ?_) | (with_reducible refine Below.more ?_ _) | (with_reducible refine Below.put ?_ ?_ _) | (with_reducible refine Below.next ?_ (by with_reducible assumption)) | (with_reducible exact Nat.le_refl _) | (with_reducible refine Below.size' ?_) | omega)))).mono ?_); rw [HTD.out]; rintro e w6 ⟨rfl, hb6⟩))
      | (go_at_call 18; ((with_reducible refine (bucket_any r a3 _ _ id _ rfl hrm (hr3.below (by repeat' (first | (with_reducible exact Below.refl _ _) | (with_reducible assumption) | (with_reducible refine Below.drew ?_) | (with_reducible refine Below.more ?_ _) | (with_reducible refine Below.put ?_ ?_ _) | (with_reducible refine Below.next ?_ (by with_reducible assumption)) | (with_reducible exact Nat.le_refl _) | (with_reducible refine Below.size' ?_) | omega)))).mono ?_); rw [HR1.out]; rintro e w7 ⟨rfl, hb7⟩))
      | (go_at_call 18; ((with_reducible refine (bucket_any ts a _ _ id _ rfl hmax (hr.below (by repeat' (first | (with_reducible exact Below.refl _ _) | (with_reducible assumption) | (with_reducible refine Below.drew ?_) | (with_reducible refine Below.more ?_ _) | (with_reducible refine Below.put ?_ ?_ _) | (with_reducible refine Below.next ?_ (by with_reducible assumption)) | (with_reducible exact Nat.le_refl _) | (with_reducible refine Below.size' ?_) | omega)))).mono ?_); rw [HT1.out]; rintro e w8 ⟨rfl, hb8⟩))
      | (go_at_call 18; ((with_reducible refine (bucket_any d a4 _ _ id _ rfl hdm (hr4.below (by repeat' (first | (with_reducible exact Below.refl _ _) | (with_reducible assumption) | (with_reducible refine Below.drew ?_) | (with_reducible refine Below.more ?_ _) | (with_reducible refine Below.put ?_ ?_ _) | (with_reducible refine Below.next ?_ (by with_reducible assumption)) | (with_reducible exact Nat.le_refl _) | (with_reducible refine Below.size' ?_) | omega)))).mono ?_); rw [HB0.out]; rintro e w9 ⟨rfl, hb9⟩))
      | (go_at_call 11; ((with_reducible refine (same_any ts ts av a _ _ _ _ _ rfl rfl hmax hmax (hwas.below (by repeat' (first | (with_reducible exact Below.refl _ _) | (with_reducible assumption) | (with_reducible refine Below.drew ?_) | (with_reducible refine Below.more ?_ _) | (with_reducible refine Below.put ?_ ?_ _) | (with_reducible refine Below.next ?_ (by with_reducible assumption)) | (with_reducible exact Nat.le_refl _) | (with_reducible refine Below.size' ?_) | omega))) (hr.below (by repeat' (first | (with_reducible exact Below.refl _ _) | (with_reducible assumption) | (with_reducible refine Below.drew ?_) | (with_reducible refine Below.more ?_ _) | (with_reducible refine Below.put ?_ ?_ _) | (with_reducible refine Below.next ?_ (by with_reducible assumption)) | (with_reducible exact Nat.le_refl _) | (with_reducible refine Below.size' ?_) | omega)))).mono ?_); rw [decide_eq_true (rfl : ts = ts)]; rintro e w10 ⟨rfl, hb10⟩; have hx3 := own_cells (w := w3) (c := #[.int .i64 0, .int .i64 rate, .int .i64 burst, .int .i64 0, .int .i64 0]) (e := 27) (w' := w10) (by repeat' (first | (with_reducible exact Below.refl _ _) | (with_reducible assumption) | (with_reducible refine Below.drew ?_) | (with_reducible refine Below.more ?_ _) | (with_reducible refine Below.put ?_ ?_ _) | (with_reducible refine Below.next ?_ (by with_reducible assumption)) | (with_reducible exact Nat.le_refl _) | (with_reducible refine Below.size' ?_) | omega))))
      | (go_at_call 16; ((with_reducible refine (pget_any r a3 _ _ id _ rfl hrm (hr3.below (by repeat' (first | (with_reducible exact Below.refl _ _) | (with_reducible assumption) | (with_reducible refine Below.drew ?_) | (with_reducible refine Below.more ?_ _) | (with_reducible refine Below.put ?_ ?_ _) | (with_reducible refine Below.next ?_ (by with_reducible assumption)) | (with_reducible exact Nat.le_refl _) | (with_reducible refine Below.size' ?_) | omega)))).mono ?_); rw [HGR.out]; rintro e w15 ⟨rfl, hb15⟩))
      | (go_at_call 16; ((with_reducible refine (pget_any d a4 _ _ id _ rfl hdm (hr4.below (by repeat' (first | (with_reducible exact Below.refl _ _) | (with_reducible assumption) | (with_reducible refine Below.drew ?_) | (with_reducible refine Below.more ?_ _) | (with_reducible refine Below.put ?_ ?_ _) | (with_reducible refine Below.next ?_ (by with_reducible assumption)) | (with_reducible exact Nat.le_refl _) | (with_reducible refine Below.size' ?_) | omega)))).mono ?_); rw [HGD.out]; rintro e w16 ⟨rfl, hb16⟩))
      | (go_at_call 8; ((with_reducible refine (wakes_any _).mono ?_); rintro e w17 ⟨rfl, hb17⟩)))
    go_returns
    exact ⟨rfl, (by repeat' (first | (with_reducible exact Below.refl _ _) | (with_reducible assumption) | (with_reducible refine Below.drew ?_) | (with_reducible refine Below.more ?_ _) | (with_reducible refine Below.put ?_ ?_ _) | (with_reducible refine Below.next ?_ (by with_reducible assumption)) | (with_reducible exact Nat.le_refl _) | (with_reducible refine Below.size' ?_) | omega))⟩
set_option maxHeartbeats 4000000 in
theorem law_never_no (a : Option Addr) (ts : List Tenant) (c : Nat) (id rate burst out other : Int) (w : World) (hc : a = none → c = 0) (hnc : ts.length ≤ c) (hr : TRow w a ts) (hl : ts.length ≤ 60) (ht : tensOk 0 ts = true)
    (he : (putS ts id rate burst out).2.e ≠ 0) :
    Calls Try.prog 5 #[.slice a ts.length c, .int .i64 id, .int .i64 rate, .int .i64 burst, .int .i64 out, .int .i64 other] w fun e w' => e = .returned (.bool true) ∧ Below w.heap.size w w' := by
  have hmax : ts.length ≤ maxLen := le_maxLen (by omega)
  have HT := Lib.hid ht
  have HG : Hid (¬ 60 < ts.length) := by show ¬ _; omega
  have hpr := putS_refused he
  obtain ⟨g1, g2, _, _⟩ := deleteS_facts (id := id) (out := out) ht
  rcases hp : putS ts id rate burst out with ⟨r, ⟨xe, xr, xb, xl, xz⟩⟩
  rw [hp] at he hpr
  replace hpr : r = ts := hpr
  subst hpr
  have hxe : (xe == 0) = false := beq_eq_false_iff_ne.2 he
  have hxn : (xe != 0) = true := by rw [bne_iff_ne]; exact he
  have HP := Lib.hid hp
  clear hp he
  have hld := deleteS_length r id out
  rcases hd : deleteS r id out with ⟨d, ⟨de, dr, db, dl, dz⟩⟩
  rw [hd] at g1 g2 hld
  simp only at g1 g2 hld
  have HD := Lib.hid hd
  have HTD := Lib.hid g1
  have HO2 := Lib.hid fun h : other ≠ id => g2 other h
  rcases hgo : getS r other with ⟨oe, or, ob, ol, oz⟩
  have HGO := Lib.hid hgo
  have hrm := hmax
  have hdm : d.length ≤ maxLen := le_maxLen (by omega)
  clear hd ht g1 g2 hgo
  obtain ⟨bt, hbt⟩ : ∃ x, bucketL r id = x := ⟨_, rfl⟩
  obtain ⟨bo, hbo⟩ : ∃ x, bucketL r other = x := ⟨_, rfl⟩
  obtain ⟨bd, hbd⟩ : ∃ x, bucketL d id = x := ⟨_, rfl⟩
  have f6 : decide (bt < bt) = false := decide_eq_false (by omega)
  have HR1 := Lib.hid hbt
  have HT2 := Lib.hid hbo
  have HB0 := Lib.hid hbd
  clear hbt hbo hbd
  have HE2 := aneq_same oe or ob ol oz
  have HSUB : Hid (other ≠ id → getS d other = ⟨oe, or, ob, ol, oz⟩) := fun h => by
    rw [getS_other HT.out HTD.out (HO2.out h), HGO.out]
  clear HO2
  cases hne : other != id with
  | true =>
    have HS := Lib.hid (HSUB.out (by simpa using hne))
    clear HSUB
    go_enter Try.func5, Try.ntmps5
    go_wp2_with (first
      | (go_at_call 7; ((with_reducible refine (great_any _ _ _ _ false (decide_eq_false HG.out)).mono ?_); rintro e w0 ⟨rfl, rfl⟩))
      | (go_at_call 12; ((with_reducible refine (check_any r a _ _ _ rfl hmax (hr.below (by repeat' (first | (with_reducible exact Below.refl _ _) | (with_reducible assumption) | (with_reducible refine Below.drew ?_) | (with_reducible refine Below.more ?_ _) | (with_reducible refine Below.put ?_ ?_ _) | (with_reducible refine Below.next ?_ (by with_reducible assumption)) | (with_reducible exact Nat.le_refl _) | (with_reducible refine Below.size' ?_) | omega)))).mono ?_); rw [HT.out]; rintro e w1 ⟨rfl, hb⟩))
      | (at_builtin; refine wpList_can el_tenants rfl (.tmp 26) (.tmp 27) rfl w1.heap.size _ 0 _ _ rfl (Can.empty _ _ _ _ _) _ r.length _ (r.flatMap Tenant.cells) rfl (TRow.length _) (Row.alloc (hr.below hb) _) (tcells_one _) (by omega) (by simp) ?_; intro av cv w2 hcan2 _ hb2 _; replace hb2 := ((Below.refl _ _).alloc (Nat.le_refl _) _).trans hb2; rw [Nat.zero_add, List.nil_append] at hcan2; have hwas : TRow w2 av r := hcan2.row; clear hcan2)
      | (go_at_call 9; ((with_reducible refine (pput_any r _ _ _ _ _ _ _ _ rfl (by omega) hc hnc (hr.below (by repeat' (first | (with_reducible exact Below.refl _ _) | (with_reducible assumption) | (with_reducible refine Below.drew ?_) | (with_reducible refine Below.more ?_ _) | (with_reducible refine Below.put ?_ ?_ _) | (with_reducible refine Below.next ?_ (by with_reducible assumption)) | (with_reducible exact Nat.le_refl _) | (with_reducible refine Below.size' ?_) | omega)))).mono ?_); rw [HP.out]; rintro e w3 ⟨a3, c3, rfl, hc3, hn3, _, hr3, hb3⟩))
      | (go_at_call 14; ((with_reducible refine (pdelete_any r _ _ _ _ _ _ rfl (by omega) hn3 hc3 (Row.alloc hr3 _)).mono ?_); rw [HD.out]; rintro e w4 ⟨a4, c4, rfl, hc4, hn4, _, hr4, hb4⟩))
      | (go_at_call 12; ((with_reducible refine (check_any r a3 _ _ _ rfl hrm (hr3.below (by repeat' (first | (with_reducible exact Below.refl _ _) | (with_reducible assumption) | (with_reducible refine Below.drew ?_) | (with_reducible refine Below.more ?_ _) | (with_reducible refine Below.put ?_ ?_ _) | (with_reducible refine Below.next ?_ (by with_reducible assumption)) | (with_reducible exact Nat.le_refl _) | (with_reducible refine Below.size' ?_) | omega)))).mono ?_); rw [HT.out]; rintro e w5 ⟨rfl, hb5⟩))
      | (go_at_call 12; ((with_reducible refine (check_any d a4 _ _ _ rfl hdm (hr4.below (by repeat' (first | (with_reducible exact Below.refl _ _) | (with_reducible assumption) | (with_reducible refine Below.drew ?_) | (with_reducible refine Below.more ?_ _) | (with_reducible refine Below.put ?_ ?_ _) | (with_reducible refine Below.next ?_ (by with_reducible assumption)) | (with_reducible exact Nat.le_refl _) | (with_reducible refine Below.size' ?_) | omega)))).mono ?_); rw [HTD.out]; rintro e w6 ⟨rfl, hb6⟩))
      | (go_at_call 18; ((with_reducible refine (bucket_any r a3 _ _ id _ rfl hrm (hr3.below (by repeat' (first | (with_reducible exact Below.refl _ _) | (with_reducible assumption) | (with_reducible refine Below.drew ?_) | (with_reducible refine Below.more ?_ _) | (with_reducible refine Below.put ?_ ?_ _) | (with_reducible refine Below.next ?_ (by with_reducible assumption)) | (with_reducible exact Nat.le_refl _) | (with_reducible refine Below.size' ?_) | omega)))).mono ?_); rw [HR1.out]; rintro e w7 ⟨rfl, hb7⟩))
      | (go_at_call 18; ((with_reducible refine (bucket_any r a _ _ id _ rfl hmax (hr.below (by repeat' (first | (with_reducible exact Below.refl _ _) | (with_reducible assumption) | (with_reducible refine Below.drew ?_) | (with_reducible refine Below.more ?_ _) | (with_reducible refine Below.put ?_ ?_ _) | (with_reducible refine Below.next ?_ (by with_reducible assumption)) | (with_reducible exact Nat.le_refl _) | (with_reducible refine Below.size' ?_) | omega)))).mono ?_); rw [HR1.out]; rintro e w8 ⟨rfl, hb8⟩))
      | (go_at_call 18; ((with_reducible refine (bucket_any d a4 _ _ id _ rfl hdm (hr4.below (by repeat' (first | (with_reducible exact Below.refl _ _) | (with_reducible assumption) | (with_reducible refine Below.drew ?_) | (with_reducible refine Below.more ?_ _) | (with_reducible refine Below.put ?_ ?_ _) | (with_reducible refine Below.next ?_ (by with_reducible assumption)) | (with_reducible exact Nat.le_refl _) | (with_reducible refine Below.size' ?_) | omega)))).mono ?_); rw [HB0.out]; rintro e w9 ⟨rfl, hb9⟩; have hx9 := own_cells (w := w3) (c := #[.int .i64 xe, .int .i64 xr, .int .i64 xb, .int .i64 xl, .int .i64 xz]) (e := 27) (w' := w9) (by repeat' (first | (with_reducible exact Below.refl _ _) | (with_reducible assumption) | (with_reducible refine Below.drew ?_) | (with_reducible refine Below.more ?_ _) | (with_reducible refine Below.put ?_ ?_ _) | (with_reducible refine Below.next ?_ (by with_reducible assumption)) | (with_reducible exact Nat.le_refl _) | (with_reducible refine Below.size' ?_) | omega))))
      | (go_at_call 11; ((with_reducible refine (same_any r r av a _ _ _ _ _ rfl rfl hmax hmax (hwas.below (by repeat' (first | (with_reducible exact Below.refl _ _) | (with_reducible assumption) | (with_reducible refine Below.drew ?_) | (with_reducible refine Below.more ?_ _) | (with_reducible refine Below.put ?_ ?_ _) | (with_reducible refine Below.next ?_ (by with_reducible assumption)) | (with_reducible exact Nat.le_refl _) | (with_reducible refine Below.size' ?_) | omega))) (hr.below (by repeat' (first | (with_reducible exact Below.refl _ _) | (with_reducible assumption) | (with_reducible refine Below.drew ?_) | (with_reducible refine Below.more ?_ _) | (with_reducible refine Below.put ?_ ?_ _) | (with_reducible refine Below.next ?_ (by with_reducible assumption)) | (with_reducible exact Nat.le_refl _) | (with_reducible refine Below.size' ?_) | omega)))).mono ?_); rw [decide_eq_true (rfl : r = r)]; rintro e w10 ⟨rfl, hb10⟩; have hx3 := own_cells (w := w3) (c := #[.int .i64 xe, .int .i64 xr, .int .i64 xb, .int .i64 xl, .int .i64 xz]) (e := 27) (w' := w10) (by repeat' (first | (with_reducible exact Below.refl _ _) | (with_reducible assumption) | (with_reducible refine Below.drew ?_) | (with_reducible refine Below.more ?_ _) | (with_reducible refine Below.put ?_ ?_ _) | (with_reducible refine Below.next ?_ (by with_reducible assumption)) | (with_reducible exact Nat.le_refl _) | (with_reducible refine Below.size' ?_) | omega))))
      | (go_at_call 18; ((with_reducible refine (bucket_any r a3 _ _ other _ rfl hrm (hr3.below (by repeat' (first | (with_reducible exact Below.refl _ _) | (with_reducible assumption) | (with_reducible refine Below.drew ?_) | (with_reducible refine Below.more ?_ _) | (with_reducible refine Below.put ?_ ?_ _) | (with_reducible refine Below.next ?_ (by with_reducible assumption)) | (with_reducible exact Nat.le_refl _) | (with_reducible refine Below.size' ?_) | omega)))).mono ?_); rw [HT2.out]; rintro e w11 ⟨rfl, hb11⟩))
      | (go_at_call 18; ((with_reducible refine (bucket_any r a _ _ other _ rfl hmax (hr.below (by repeat' (first | (with_reducible exact Below.refl _ _) | (with_reducible assumption) | (with_reducible refine Below.drew ?_) | (with_reducible refine Below.more ?_ _) | (with_reducible refine Below.put ?_ ?_ _) | (with_reducible refine Below.next ?_ (by with_reducible assumption)) | (with_reducible exact Nat.le_refl _) | (with_reducible refine Below.size' ?_) | omega)))).mono ?_); rw [HT2.out]; rintro e w12 ⟨rfl, hb12⟩))
      | (go_at_call 16; ((with_reducible refine (pget_any d a4 _ _ other _ rfl hdm (hr4.below (by repeat' (first | (with_reducible exact Below.refl _ _) | (with_reducible assumption) | (with_reducible refine Below.drew ?_) | (with_reducible refine Below.more ?_ _) | (with_reducible refine Below.put ?_ ?_ _) | (with_reducible refine Below.next ?_ (by with_reducible assumption)) | (with_reducible exact Nat.le_refl _) | (with_reducible refine Below.size' ?_) | omega)))).mono ?_); rw [HS.out]; rintro e w13 ⟨rfl, hb13⟩))
      | (go_at_call 16; ((with_reducible refine (pget_any r a _ _ other _ rfl hmax (hr.below (by repeat' (first | (with_reducible exact Below.refl _ _) | (with_reducible assumption) | (with_reducible refine Below.drew ?_) | (with_reducible refine Below.more ?_ _) | (with_reducible refine Below.put ?_ ?_ _) | (with_reducible refine Below.next ?_ (by with_reducible assumption)) | (with_reducible exact Nat.le_refl _) | (with_reducible refine Below.size' ?_) | omega)))).mono ?_); rw [HGO.out]; rintro e w14 ⟨rfl, hb14⟩; have hx4 := own_cells (w := w3) (c := #[.int .i64 xe, .int .i64 xr, .int .i64 xb, .int .i64 xl, .int .i64 xz]) (e := 27) (w' := w14) (by repeat' (first | (with_reducible exact Below.refl _ _) | (with_reducible assumption) | (with_reducible refine Below.drew ?_) | (with_reducible refine Below.more ?_ _) | (with_reducible refine Below.put ?_ ?_ _) | (with_reducible refine Below.next ?_ (by with_reducible assumption)) | (with_reducible exact Nat.le_refl _) | (with_reducible refine Below.size' ?_) | omega))))
      | (go_at_call 11; ((with_reducible refine (same_any r r a3 a _ _ _ _ _ rfl rfl hmax hmax (hr3.below (by repeat' (first | (with_reducible exact Below.refl _ _) | (with_reducible assumption) | (with_reducible refine Below.drew ?_) | (with_reducible refine Below.more ?_ _) | (with_reducible refine Below.put ?_ ?_ _) | (with_reducible refine Below.next ?_ (by with_reducible assumption)) | (with_reducible exact Nat.le_refl _) | (with_reducible refine Below.size' ?_) | omega))) (hr.below (by repeat' (first | (with_reducible exact Below.refl _ _) | (with_reducible assumption) | (with_reducible refine Below.drew ?_) | (with_reducible refine Below.more ?_ _) | (with_reducible refine Below.put ?_ ?_ _) | (with_reducible refine Below.next ?_ (by with_reducible assumption)) | (with_reducible exact Nat.le_refl _) | (with_reducible refine Below.size' ?_) | omega)))).mono ?_); rw [decide_eq_true (rfl : r = r)]; rintro e w20 ⟨rfl, hb20⟩))
      | (go_at_call 8; ((with_reducible refine (wakes_any _).mono ?_); rintro e w17 ⟨rfl, hb17⟩)))
    all_goals
      go_returns
      exact ⟨rfl, (by repeat' (first | (with_reducible exact Below.refl _ _) | (with_reducible assumption) | (with_reducible refine Below.drew ?_) | (with_reducible refine Below.more ?_ _) | (with_reducible refine Below.put ?_ ?_ _) | (with_reducible refine Below.next ?_ (by with_reducible assumption)) | (with_reducible exact Nat.le_refl _) | (with_reducible refine Below.size' ?_) | omega))⟩
  | false =>
    go_enter Try.func5, Try.ntmps5
    go_wp2_with (first
      | (go_at_call 7; ((with_reducible refine (great_any _ _ _ _ false (decide_eq_false HG.out)).mono ?_); rintro e w0 ⟨rfl, rfl⟩))
      | (go_at_call 12; ((with_reducible refine (check_any r a _ _ _ rfl hmax (hr.below (by repeat' (first | (with_reducible exact Below.refl _ _) | (with_reducible assumption) | (with_reducible refine Below.drew ?_) | (with_reducible refine Below.more ?_ _) | (with_reducible refine Below.put ?_ ?_ _) | (with_reducible refine Below.next ?_ (by with_reducible assumption)) | (with_reducible exact Nat.le_refl _) | (with_reducible refine Below.size' ?_) | omega)))).mono ?_); rw [HT.out]; rintro e w1 ⟨rfl, hb⟩))
      | (at_builtin; refine wpList_can el_tenants rfl (.tmp 26) (.tmp 27) rfl w1.heap.size _ 0 _ _ rfl (Can.empty _ _ _ _ _) _ r.length _ (r.flatMap Tenant.cells) rfl (TRow.length _) (Row.alloc (hr.below hb) _) (tcells_one _) (by omega) (by simp) ?_; intro av cv w2 hcan2 _ hb2 _; replace hb2 := ((Below.refl _ _).alloc (Nat.le_refl _) _).trans hb2; rw [Nat.zero_add, List.nil_append] at hcan2; have hwas : TRow w2 av r := hcan2.row; clear hcan2)
      | (go_at_call 9; ((with_reducible refine (pput_any r _ _ _ _ _ _ _ _ rfl (by omega) hc hnc (hr.below (by repeat' (first | (with_reducible exact Below.refl _ _) | (with_reducible assumption) | (with_reducible refine Below.drew ?_) | (with_reducible refine Below.more ?_ _) | (with_reducible refine Below.put ?_ ?_ _) | (with_reducible refine Below.next ?_ (by with_reducible assumption)) | (with_reducible exact Nat.le_refl _) | (with_reducible refine Below.size' ?_) | omega)))).mono ?_); rw [HP.out]; rintro e w3 ⟨a3, c3, rfl, hc3, hn3, _, hr3, hb3⟩))
      | (go_at_call 14; ((with_reducible refine (pdelete_any r _ _ _ _ _ _ rfl (by omega) hn3 hc3 (Row.alloc hr3 _)).mono ?_); rw [HD.out]; rintro e w4 ⟨a4, c4, rfl, hc4, hn4, _, hr4, hb4⟩))
      | (go_at_call 12; ((with_reducible refine (check_any r a3 _ _ _ rfl hrm (hr3.below (by repeat' (first | (with_reducible exact Below.refl _ _) | (with_reducible assumption) | (with_reducible refine Below.drew ?_) | (with_reducible refine Below.more ?_ _) | (with_reducible refine Below.put ?_ ?_ _) | (with_reducible refine Below.next ?_ (by with_reducible assumption)) | (with_reducible exact Nat.le_refl _) | (with_reducible refine Below.size' ?_) | omega)))).mono ?_); rw [HT.out]; rintro e w5 ⟨rfl, hb5⟩))
      | (go_at_call 12; ((with_reducible refine (check_any d a4 _ _ _ rfl hdm (hr4.below (by repeat' (first | (with_reducible exact Below.refl _ _) | (with_reducible assumption) | (with_reducible refine Below.drew ?_) | (with_reducible refine Below.more ?_ _) | (with_reducible refine Below.put ?_ ?_ _) | (with_reducible refine Below.next ?_ (by with_reducible assumption)) | (with_reducible exact Nat.le_refl _) | (with_reducible refine Below.size' ?_) | omega)))).mono ?_); rw [HTD.out]; rintro e w6 ⟨rfl, hb6⟩))
      | (go_at_call 18; ((with_reducible refine (bucket_any r a3 _ _ id _ rfl hrm (hr3.below (by repeat' (first | (with_reducible exact Below.refl _ _) | (with_reducible assumption) | (with_reducible refine Below.drew ?_) | (with_reducible refine Below.more ?_ _) | (with_reducible refine Below.put ?_ ?_ _) | (with_reducible refine Below.next ?_ (by with_reducible assumption)) | (with_reducible exact Nat.le_refl _) | (with_reducible refine Below.size' ?_) | omega)))).mono ?_); rw [HR1.out]; rintro e w7 ⟨rfl, hb7⟩))
      | (go_at_call 18; ((with_reducible refine (bucket_any r a _ _ id _ rfl hmax (hr.below (by repeat' (first | (with_reducible exact Below.refl _ _) | (with_reducible assumption) | (with_reducible refine Below.drew ?_) | (with_reducible refine Below.more ?_ _) | (with_reducible refine Below.put ?_ ?_ _) | (with_reducible refine Below.next ?_ (by with_reducible assumption)) | (with_reducible exact Nat.le_refl _) | (with_reducible refine Below.size' ?_) | omega)))).mono ?_); rw [HR1.out]; rintro e w8 ⟨rfl, hb8⟩))
      | (go_at_call 18; ((with_reducible refine (bucket_any d a4 _ _ id _ rfl hdm (hr4.below (by repeat' (first | (with_reducible exact Below.refl _ _) | (with_reducible assumption) | (with_reducible refine Below.drew ?_) | (with_reducible refine Below.more ?_ _) | (with_reducible refine Below.put ?_ ?_ _) | (with_reducible refine Below.next ?_ (by with_reducible assumption)) | (with_reducible exact Nat.le_refl _) | (with_reducible refine Below.size' ?_) | omega)))).mono ?_); rw [HB0.out]; rintro e w9 ⟨rfl, hb9⟩; have hx9 := own_cells (w := w3) (c := #[.int .i64 xe, .int .i64 xr, .int .i64 xb, .int .i64 xl, .int .i64 xz]) (e := 27) (w' := w9) (by repeat' (first | (with_reducible exact Below.refl _ _) | (with_reducible assumption) | (with_reducible refine Below.drew ?_) | (with_reducible refine Below.more ?_ _) | (with_reducible refine Below.put ?_ ?_ _) | (with_reducible refine Below.next ?_ (by with_reducible assumption)) | (with_reducible exact Nat.le_refl _) | (with_reducible refine Below.size' ?_) | omega))))
      | (go_at_call 11; ((with_reducible refine (same_any r r av a _ _ _ _ _ rfl rfl hmax hmax (hwas.below (by repeat' (first | (with_reducible exact Below.refl _ _) | (with_reducible assumption) | (with_reducible refine Below.drew ?_) | (with_reducible refine Below.more ?_ _) | (with_reducible refine Below.put ?_ ?_ _) | (with_reducible refine Below.next ?_ (by with_reducible assumption)) | (with_reducible exact Nat.le_refl _) | (with_reducible refine Below.size' ?_) | omega))) (hr.below (by repeat' (first | (with_reducible exact Below.refl _ _) | (with_reducible assumption) | (with_reducible refine Below.drew ?_) | (with_reducible refine Below.more ?_ _) | (with_reducible refine Below.put ?_ ?_ _) | (with_reducible refine Below.next ?_ (by with_reducible assumption)) | (with_reducible exact Nat.le_refl _) | (with_reducible refine Below.size' ?_) | omega)))).mono ?_); rw [decide_eq_true (rfl : r = r)]; rintro e w10 ⟨rfl, hb10⟩; have hx3 := own_cells (w := w3) (c := #[.int .i64 xe, .int .i64 xr, .int .i64 xb, .int .i64 xl, .int .i64 xz]) (e := 27) (w' := w10) (by repeat' (first | (with_reducible exact Below.refl _ _) | (with_reducible assumption) | (with_reducible refine Below.drew ?_) | (with_reducible refine Below.more ?_ _) | (with_reducible refine Below.put ?_ ?_ _) | (with_reducible refine Below.next ?_ (by with_reducible assumption)) | (with_reducible exact Nat.le_refl _) | (with_reducible refine Below.size' ?_) | omega))))
      | (go_at_call 11; ((with_reducible refine (same_any r r a3 a _ _ _ _ _ rfl rfl hmax hmax (hr3.below (by repeat' (first | (with_reducible exact Below.refl _ _) | (with_reducible assumption) | (with_reducible refine Below.drew ?_) | (with_reducible refine Below.more ?_ _) | (with_reducible refine Below.put ?_ ?_ _) | (with_reducible refine Below.next ?_ (by with_reducible assumption)) | (with_reducible exact Nat.le_refl _) | (with_reducible refine Below.size' ?_) | omega))) (hr.below (by repeat' (first | (with_reducible exact Below.refl _ _) | (with_reducible assumption) | (with_reducible refine Below.drew ?_) | (with_reducible refine Below.more ?_ _) | (with_reducible refine Below.put ?_ ?_ _) | (with_reducible refine Below.next ?_ (by with_reducible assumption)) | (with_reducible exact Nat.le_refl _) | (with_reducible refine Below.size' ?_) | omega)))).mono ?_); rw [decide_eq_true (rfl : r = r)]; rintro e w20 ⟨rfl, hb20⟩))
      | (go_at_call 8; ((with_reducible refine (wakes_any _).mono ?_); rintro e w17 ⟨rfl, hb17⟩)))
    all_goals
      go_returns
      exact ⟨rfl, (by repeat' (first | (with_reducible exact Below.refl _ _) | (with_reducible assumption) | (with_reducible refine Below.drew ?_) | (with_reducible refine Below.more ?_ _) | (with_reducible refine Below.put ?_ ?_ _) | (with_reducible refine Below.next ?_ (by with_reducible assumption)) | (with_reducible exact Nat.le_refl _) | (with_reducible refine Below.size' ?_) | omega))⟩

set_option maxHeartbeats 4000000 in
theorem law_never (a : Option Addr) (ts : List Tenant) (n c : Nat) (id rate burst out other : Int) (w : World) (hn : ts.length = n) (hc : a = none → c = 0) (hnc : n ≤ c) (hr : TRow w a ts) :
    Calls Try.prog 5 #[.slice a n c, .int .i64 id, .int .i64 rate, .int .i64 burst, .int .i64 out, .int .i64 other] w fun e w' => e = .returned (.bool true) ∧ Below w.heap.size w w' := by
  subst hn
  by_cases hg : 60 < ts.length
  · have HG := Lib.hid hg
    clear hg
    go_enter Try.func5, Try.ntmps5
    go_wp2_with (first
      | (go_at_call 7; ((with_reducible refine (great_any _ _ _ _ true (decide_eq_true HG.out)).mono ?_); rintro e w1 ⟨rfl, rfl⟩))
      | (go_at_call 8; ((with_reducible refine (wakes_any _).mono ?_); rintro e w2 ⟨rfl, hb2⟩)))
    go_returns
    exact ⟨rfl, hb2⟩
  · have hmax : ts.length ≤ maxLen := le_maxLen (by omega)
    cases ht : tensOk 0 ts with
    | false =>
      have HG := Lib.hid hg
      have HT := Lib.hid ht
      clear hg ht
      go_enter Try.func5, Try.ntmps5
      go_wp2_with (first
        | (go_at_call 7; ((with_reducible refine (great_any _ _ _ _ false (decide_eq_false HG.out)).mono ?_); rintro e w0 ⟨rfl, rfl⟩))
        | (go_at_call 12; ((with_reducible refine (check_any ts a _ _ _ rfl hmax hr).mono ?_); rw [HT.out]; rintro e w1 ⟨rfl, hb⟩))
        | (go_at_call 8; ((with_reducible refine (wakes_any _).mono ?_); rintro e w2 ⟨rfl, hb2⟩)))
      go_returns
      exact ⟨rfl, (by repeat' (first | (with_reducible exact Below.refl _ _) | (with_reducible assumption) | (with_reducible refine Below.drew ?_) | (with_reducible refine Below.more ?_ _) | (with_reducible refine Below.put ?_ ?_ _) | (with_reducible refine Below.next ?_ (by with_reducible assumption)) | (with_reducible exact Nat.le_refl _) | (with_reducible refine Below.size' ?_) | omega))⟩
    | true =>
      by_cases he : (putS ts id rate burst out).2.e = 0
      · exact law_never_ok a ts c id rate burst out other w hc hnc hr (by omega) ht he
      · exact law_never_no a ts c id rate burst out other w hc hnc hr (by omega) ht he
end Go.Proofs.Ytnpbajmpenpnbaa
