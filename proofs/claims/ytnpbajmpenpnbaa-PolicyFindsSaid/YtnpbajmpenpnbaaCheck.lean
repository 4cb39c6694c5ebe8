import Derived.Test.YtnpbajmpenpnbaaAsks
namespace Go.Proofs.Ytnpbajmpenpnbaa
open Go.ChangeShapes Go.WideShapes Go.ChangeAt Go.RowKit

theorem enter_check5 (args : Array Value) (w : World) : (callFunc 37 args).run Try.prog w = .ok (.enter 37 args) w := by kernel_rfl

set_option maxHeartbeats 1000000 in
theorem check_any (ts : List Tenant) (a : Option Addr) (n c : Nat) (w : World) (hn : ts.length = n) (hl : ts.length ≤ maxLen) (hr : TRow w a ts) :
    Calls Try.prog 12 #[.slice a n c] w fun e w' => e = .returned (.bool (tensOk 0 ts)) ∧ Below w.heap.size w w' := by
  subst hn
  have hl2 := lt_maxLen hl
  go_enter Try.func12, Try.ntmps12
  go_wp2
  go_loopw [11] (fun i wr => ∃ k : Nat, k ≤ ts.length ∧ i = .int .i64 k ∧ tensOk 0 (ts.take k) = true ∧ wr.cell? ⟨w.heap.size, 0, none⟩ = some (.int .i64 (lastId (ts.take k))) ∧ wr.frozen? ⟨w.heap.size, 0, none⟩ = false ∧ w.heap.size + 2 ≤ wr.heap.size ∧
      Row wr (some ⟨w.heap.size + 1, 0, none⟩) [askVal w.heap.size 0, askVal w.heap.size 1, askVal w.heap.size 2, askVal w.heap.size 3] ∧ Below w.heap.size w wr) (fun i _ => ts.length - (intOf i).toNat)
  case atStart =>
    refine ⟨0, by omega, rfl, rfl, ?_, ?_, ?_, ?_, by go_grown⟩
    · rw [World.cell?_alloc_past _ _ _ (by simp), World.cell?_alloc_at _ _ _ _ rfl]; rfl
    · rw [World.frozen?_alloc_past _ _ _ (by simp), World.frozen?_alloc_at _ _ _ _ rfl]
    · simp
    · have := Row.new (w.alloc (.cells #[.int .i64 0] 3)) #[askVal w.heap.size 0, askVal w.heap.size 1, askVal w.heap.size 2, askVal w.heap.size 3] 50 (0, 0)
      simp only [World.size_alloc] at this
      exact this
  case round =>
    obtain ⟨k, hk, rfl, hok, hlast, hfz, hsz, hrow, hb⟩ := hrel
    by_cases hlt : k < ts.length
    · obtain ⟨b, o, rfl, hcs⟩ := hr.at hlt
      obtain ⟨h0, h1, h2, h3, h4⟩ := hcs _ hb
      have hltw : w.heap.size < wr.heap.size := by omega
      have hcall := containsFuncs_any (fun i => !askAt (lastId (ts.take k)) ts[k] i) [askVal w.heap.size 0, askVal w.heap.size 1, askVal w.heap.size 2, askVal w.heap.size 3] (some ⟨w.heap.size + 1, 0, none⟩) 4 4 37
        #[.pointer (some ⟨wr.heap.size, 0, none⟩)] (wr.alloc (.cells #[.int .i64 ts[k].id, .int .i64 ts[k].rate, .int .i64 ts[k].burst, .int .i64 ts[k].bucket, .bool ts[k].gone] 38)) rfl (by decide) (hrow.alloc _) enter_check5
        (by
          intro i v hv w' hb'
          have hi : i < 4 := (List.getElem?_eq_some_iff.1 hv).1
          obtain rfl : askVal w.heap.size i = v := by
            match i, hi with
            | 0, _ => simpa using hv
            | 1, _ => simpa using hv
            | 2, _ => simpa using hv
            | 3, _ => simpa using hv
          have hx : ∀ j, w'.cell? ⟨wr.heap.size, j, none⟩ = #[Value.int .i64 ts[k].id, .int .i64 ts[k].rate, .int .i64 ts[k].burst, .int .i64 ts[k].bucket, .bool ts[k].gone][j]? := fun j =>
            (hb'.cell (p := ⟨wr.heap.size, j, none⟩) (by simp)).trans (World.cell?_alloc_at _ _ _ _ rfl)
          exact not_ask ts[k] _ w.heap.size wr.heap.size i hi w' ((hb'.cell (p := ⟨w.heap.size, 0, none⟩) (by simp; omega)).trans ((World.cell?_alloc_past _ _ _ hltw).trans hlast)) (hx 0) (hx 1) (hx 2) (hx 3) (hx 4))
      rw [firstAt_ask] at hcall
      clear hcs
      have HLAST := Lib.hid hlast
      have HROW := Lib.hid hrow
      have HFZ := Lib.hid hfz
      have HOK := Lib.hid hok
      clear hlast hrow hfz hok
      by_cases hten : tenOk (lastId (ts.take k)) ts[k] = true
      · rw [hten] at hcall
        have HC := Lib.hid hcall
        have HTEN := Lib.hid hten
        clear hcall hten
        go_wp2_with (go_at_call 36; ((with_reducible refine HC.out.mono ?_); rintro e w2 ⟨rfl, hb2⟩; have c1 := (hb2.cell (p := ⟨wr.heap.size, 0, none⟩) (by simp)).trans (World.cell?_alloc_at _ _ _ _ rfl); have c2 := (hb2.cell (p := ⟨w.heap.size, 0, none⟩) (by simp; omega)).trans ((World.cell?_alloc_past _ _ _ hltw).trans HLAST.out); have c3 := (hb2.frozen (p := ⟨w.heap.size, 0, none⟩) (by simp; omega)).trans ((World.frozen?_alloc_past _ _ _ hltw).trans HFZ.out)))
        go_roundw
        case rel =>
          have hrow2 := (HROW.out.alloc (.cells #[.int .i64 ts[k].id, .int .i64 ts[k].rate, .int .i64 ts[k].burst, .int .i64 ts[k].bucket, .bool ts[k].gone] 38)).below hb2
          refine ⟨k + 1, by omega, by go_num, by rw [tensOk_take hlt, HOK.out, HTEN.out]; rfl, ?_, ?_, ?_, hrow2.setFar (by simp) _, ?_⟩
          · rw [lastId_take hlt]; exact World.cell?_setCell_same _ _ _ c2
          · rw [World.frozen?_setCell]; exact c3
          · have := hb2.size; simp at this; simp; omega
          · exact ((hb.alloc hb.size _).trans (hb2.mono (by simp; omega))).setCell (Nat.le_refl _) _
        case measure => simp [intOf]; omega
      · rw [Bool.not_eq_true] at hten
        rw [hten] at hcall
        have HC := Lib.hid hcall
        have HTEN := Lib.hid hten
        clear hcall hten
        go_wp2_with (go_at_call 36; ((with_reducible refine HC.out.mono ?_); rintro e w2 ⟨rfl, hb2⟩))
        go_returns
        exact ⟨ret_bool (tensOk_bad hlt HTEN.out).symm, (hb.alloc hb.size _).trans (hb2.mono (by simp; omega))⟩
    · have HOK := Lib.hid hok
      clear hok
      go_wp2
      go_returns
      exact ⟨ret_bool (by have := HOK.out; rw [List.take_of_length_le (by omega)] at this; exact this.symm), hb⟩
end Go.Proofs.Ytnpbajmpenpnbaa
