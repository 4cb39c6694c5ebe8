/- Bytes behind a writer's bytes. -/
import Derived.Test.YtlckgnemmffdkaaWirCwB
namespace Go.Proofs.Ytlckgnemmffdkaa
open Go.ChangeShapes Go.WideShapes Go.ChangeAt Go.RowKit
set_option maxRecDepth 100000

/-- One append of the writer's, of any length, in a region that draws its order. -/
theorem step_far {P : Program} {w : World} {ops : Array Oper} {o : Oper} {ac : Act} {K : Act → World → Prop} {Q : Exit → Act → World → Prop} {E : Prop} {t e : TypeId} {size bytes : Nat} (el : Elem P t e size bytes) (hgd : o.guard = none) (s x : Operand)
    (ho : o.op = .call { callee := .builtin .append, args := #[s, x], argTypes := #[t, t] })
    (D : Nat) (a : Option Addr) (n c : Nat) (xs : List Value) (hs : ac.eval s = .slice a n c) (hcan : Can w D e size a n c xs)
    (ad : Option Addr) (m k : Nat) (news : List Value) (hx : ac.eval x = .slice ad m k) (hl : news.length = m * size) (hr : Row w ad news) (h1 : ∀ u ∈ news, u.oneCell' = true)
    (hbytes : (n + m) * bytes ≤ 140737488355328) (hD : D ≤ w.heap.size) (hfar : ∀ b o s, a = some ⟨b, o, s⟩ → D ≤ b ∧ b < w.heap.size)
    (h : ∀ a' c' w', Can w' D e size a' (n + m) c' (xs ++ news) → w.grownBy w' (Value.slice a n c).ownBlock → Near w.heap.size a a' → (∀ b o s, a' = some ⟨b, o, s⟩ → D ≤ b) → (∀ b o s, a' = some ⟨b, o, s⟩ → b < w'.heap.size) → K (ac.put o.dst (.slice a' (n + m) c')) w') :
    if Region.wanted o (yielded ops ac.tmps) = true then Oper.wp P o ac w K Q else E := by
  have hw : Region.wanted o (yielded ops ac.tmps) = true := by simp [Region.wanted, hgd]
  rw [if_pos hw]
  obtain ⟨a', c', w', hrun, h2, h3, h4, h5⟩ := run_can el o.type D a n c xs hcan ad m k news hl hr h1 hbytes hD
  unfold Oper.wp execOp
  simp only [ho, resolve, invoke, builtin, Sem.run_bind, Sem.run_pure, Result.andThen_ok, List.map_toArray, List.map_cons, List.map_nil, hs, hx, hrun]
  by_cases hm : 0 < m
  · have hn := can_near el o.type D a n c xs hcan ad m k news hl hr h1 hbytes hm hrun
    exact h a' c' w' h2 h3 hn (own_block (h5.1 hm)) (own_lt (h5.1 hm))
  · obtain ⟨rfl, -⟩ := h5.2 (by omega)
    exact h a' c' w' h2 h3 (Near.self _ _) (fun b o s e => (hfar b o s e).1) (fun b o s e => Nat.lt_of_lt_of_le (hfar b o s e).2 h3.size)
set_option maxHeartbeats 2000000 in
theorem bytes_w (D g gx ox c m k : Nat) (a ad : Option Addr) (bs ds : List UInt8) (w : World) (h : Cw w D g a c bs) (hD : D ≤ w.heap.size) (hx : w.cell? ⟨gx, ox, none⟩ = some (.slice ad m k)) (hm : ds.length = m) (hr : LowRow g w ad (ds.map B)) (hgx : gx ≠ g) (hxa : ∀ o s, a ≠ some ⟨gx, o, s⟩) (hn : bs.length ≤ 9000000) (hn2 : m ≤ 9000000) :
    Calls Try.prog 82 #[.pointer (some ⟨g, 0, none⟩), .pointer (some ⟨gx, ox, none⟩)] w (RetCw w D g a (bs ++ (be8 ds.length ++ ds))) := by
  have hgl := World.block_lt_of_cell? w _ hx
  have HCO : Hid (Calls Try.prog 100 #[.pointer (some ⟨g, 0, none⟩), .int .i64 m, .int .i64 1] w (RetCount' w D g a m (bs ++ be8 (m : Int)))) := count_w D g c 1 m a bs w h hD (by omega)
  have HC := Lib.hid h
  have HX := Lib.hid (And.intro hx (And.intro hgx hxa))
  have HR := Lib.hid hr
  have HM := Lib.hid hm
  have hlb : (bs ++ be8 (m : Int)).length ≤ 9000008 := by rw [List.length_append, be8_length]; omega
  have HT := Lib.hid (show bs ++ (be8 ds.length ++ ds) = (bs ++ be8 (m : Int)) ++ ds by rw [hm, List.append_assoc])
  clear h hgx hxa hr hm
  generalize bs ++ be8 (m : Int) = l1 at HCO HT hlb
  go_enter Try.func82, Try.ntmps82
  go_upto_region 3 with (go_at_call 100; ((with_reducible refine HCO.out.mono ?_); rintro e w1 ⟨a1, c1, rfl, hcw1, hgr1⟩; have y1 := grew_cell hgr1 HX.out.1 HX.out.2.1 HX.out.2.2; have y2 := hcw1.box.cell (j := 2) rfl; have y0 := hcw1.box.cell (j := 0) rfl; have HR1 := Lib.hid (HR.out.grew HC.out hgr1); have ea : g < w1.heap.size := World.block_lt_of_cell? w1 _ y0; have eb : gx < w1.heap.size := World.block_lt_of_cell? w1 _ y1; have hDr : D ≤ w1.heap.size := Nat.le_trans hD hgr1.size; have HC1 := Lib.hid hcw1; have HG1 := Lib.hid hgr1; clear hcw1 hgr1))
  have z0 := HC1.out.box.froz (j := 0) (show 0 < 3 by decide)
  go_region_law (first
    | (refine step_far el_bytes rfl (.tmp 25) (.tmp 28) rfl D a1 l1.length c1 (l1.map B) rfl (Can.drew HC1.out.can) ad m k (ds.map B) rfl (by rw [List.length_map, HM.out, Nat.mul_one]) (Row.drew HR1.out.row) (bytes_one _) (by omega) (by simp; omega) (fun b o s e => ⟨HC1.out.far b o s e, by have := HC1.out.lt b o s e; simpa using this⟩) ?_; intro a2 c2 w2 hcan2 hg2 hn2 hf2 hl2; rw [← HM.out] at hcan2 ⊢; have hst := Cw.step (ns := ds) HC1.out (Below.refl _ _).drew hDr hcan2 hg2 hn2 hf2 hl2; have q0 := hst.1.cell (j := 0) rfl; have q1 := hst.1.froz (j := 0) (show 0 < 3 by decide); have HST := Lib.hid hst.2; clear hst hcan2 hg2 hn2 hf2 hl2))
  all_goals
    go_end0
    exact ⟨a2, c2, rfl, by rw [HT.out]; exact HST.out.1, HG1.out.trans HST.out.2⟩
end Go.Proofs.Ytlckgnemmffdkaa
