import Derived.Test.YtmihgdjnjfjjcaaPackFollowAsks1
set_option linter.unusedVariables false
set_option linter.unusedSimpArgs false
/- Entries, messages, commands, answers and states as bytes, and out of bytes. Plain. -/
namespace Go.Proofs.Ytmihgdjnjfjjcaa

def Short (n : Nat) : Prop := n < 9223372036854775808
def KindIn (k : Int) : Prop := -128 ≤ k ∧ k < 128
theorem bind_w {α β : Type} {o : List UInt8 → Nat → Got α} {f : α → List UInt8 → Nat → Got β} {e1 : α → List UInt8} {g1 : α → Prop} {E : α → β → List UInt8} {G : α → β → Prop} {enc : β → List UInt8} {good : β → Prop}
    (h : Wrote1 o e1 g1) (h2 : ∀ a, g1 a → Wrote1 (f a) (E a) (G a)) (hj : ∀ a y, g1 a → G a y → enc y = e1 a ++ E a y ∧ good y) : Wrote1 (fun l p => bindP (o l p) fun a q => f a l q) enc good := fun l p y q hp hr => by
  obtain ⟨a, h3, h4, h5, h6, h7⟩ := bind_wrote h h2 hp hr
  obtain ⟨h8, h9⟩ := hj a y h3 h7
  exact ⟨h4, h5, by rw [h6, h8], h9⟩
theorem map_w {α β : Type} {o : List UInt8 → Nat → Got α} {g : α → β} {e1 : α → List UInt8} {g1 : α → Prop} {enc : β → List UInt8} {good : β → Prop} (h : Wrote1 o e1 g1) (hj : ∀ a, g1 a → enc (g a) = e1 a ∧ good (g a)) :
    Wrote1 (fun l p => bindP (o l p) fun a q => .ok (g a, q)) enc good :=
  bind_w (f := fun a _ p => .ok (g a, p)) (E := fun _ _ => []) (G := fun a y => y = g a) h (fun a _ => pure_wrote (g a)) (fun a y h1 h2 => by subst h2; rw [List.append_nil]; exact hj a h1)
theorem num_wrote : Wrote1 numP be8 InI := map_w (need_wrote 8) fun b hb => ⟨be8_num8 hb, num8_in hb⟩
theorem small_wrote : Wrote1 smallP (fun b => [b]) (fun _ => True) := map_w (need_wrote 1) fun b hb => by
  match b, hb with
  | [c], _ => exact ⟨rfl, trivial⟩
theorem kind_wrote : Wrote1 kindP (fun k => [kindB k]) KindIn := map_w small_wrote fun b _ => ⟨by rw [kindB_kindI], kindI_in b⟩
theorem truth_wrote : Wrote1 truthP (fun x => [truthB x]) (fun _ => True) := fun l p x q hp h => by
  unfold truthP at h
  cases hs : smallP l p with
  | error e => rw [hs] at h; cases h
  | ok v =>
    obtain ⟨b, m⟩ := v
    rw [hs] at h
    simp only [bindP] at h
    split at h
    · cases h
    · rename_i hb
      simp only [Except.ok.injEq, Prod.mk.injEq] at h
      obtain ⟨rfl, rfl⟩ := h
      obtain ⟨i1, i2, i3, _⟩ := small_wrote l p b m hp hs
      refine ⟨i1, i2, ?_, trivial⟩
      rw [i3]
      have h01 : b.toNat = 0 ∨ b.toNat = 1 := by omega
      rcases h01 with h0 | h0
      · have : b = 0 := UInt8.toNat_inj.1 (by rw [h0]; rfl)
        subst this; rfl
      · have : b = 1 := UInt8.toNat_inj.1 (by rw [h0]; rfl)
        subst this; rfl
theorem count_wrote (size : Nat) : Wrote1 (countP size) (fun n => be8 (n : Int)) (fun n => Short n) := fun l p n q hp h => by
  unfold countP at h
  cases hs : numP l p with
  | error e => rw [hs] at h; cases h
  | ok v =>
    obtain ⟨b, m⟩ := v
    rw [hs] at h
    simp only [bindP] at h
    split at h
    · cases h
    · rename_i hb
      simp only [Except.ok.injEq, Prod.mk.injEq] at h
      obtain ⟨rfl, rfl⟩ := h
      obtain ⟨i1, i2, i3, i4⟩ := num_wrote l p b m hp hs
      have e : ((b.toNat : Nat) : Int) = b := by omega
      refine ⟨i1, i2, by rw [i3]; simp only [e], ?_⟩
      unfold InI at i4; unfold Short; omega
theorem bytes_wrote : Wrote1 bytesP (fun d => be8 d.length ++ d) (fun d => Short d.length) :=
  bind_w (E := fun _ y => y) (G := fun a y => y.length = a) (count_wrote 1) (fun a _ => need_wrote a) (fun a y h1 h2 => by subst h2; exact ⟨rfl, h1⟩)
theorem times_wrote {α : Type} {one : List UInt8 → Nat → Got α} {enc : α → List UInt8} {good : α → Prop} (h : Wrote1 one enc good) : ∀ n, Wrote1 (timesP one n) (fun xs => xs.flatMap enc) (fun xs => xs.length = n ∧ ∀ x ∈ xs, good x)
  | 0 => fun l p x q hp hr => by
    obtain ⟨i1, i2, i3, rfl⟩ := pure_wrote ([] : List α) l p x q hp hr
    exact ⟨i1, i2, i3, rfl, by simp⟩
  | n + 1 => bind_w (f := fun x l q => bindP (timesP one n l q) fun xs q => .ok (x :: xs, q)) (E := fun _ y => y.tail.flatMap enc) (G := fun a y => ∃ xs, y = a :: xs ∧ xs.length = n ∧ ∀ x ∈ xs, good x) h
      (fun a _ => map_w (times_wrote h n) fun xs hx => ⟨rfl, xs, rfl, hx⟩)
      (fun a y h1 h2 => by
        obtain ⟨xs, rfl, h3, h4⟩ := h2
        exact ⟨rfl, by rw [List.length_cons, h3], fun x hx => by rcases List.mem_cons.1 hx with rfl | hx; exact h1; exact h4 x hx⟩)
theorem list_wrote {α : Type} {one : List UInt8 → Nat → Got α} {enc : α → List UInt8} {good : α → Prop} (size : Nat) (h : Wrote1 one enc good) : Wrote1 (listP size one) (fun xs => be8 xs.length ++ xs.flatMap enc) (fun xs => Short xs.length ∧ ∀ x ∈ xs, good x) :=
  bind_w (E := fun _ xs => xs.flatMap enc) (G := fun n xs => xs.length = n ∧ ∀ x ∈ xs, good x) (count_wrote size) (fun n _ => times_wrote h n) (fun n y h1 h2 => by obtain ⟨rfl, h3⟩ := h2; exact ⟨rfl, h1, h3⟩)
theorem num_list_reads {xs : List Int} (h : Short xs.length ∧ ∀ y ∈ xs, InI y) : Reads (listP 8 numP) xs (be8 xs.length ++ xs.flatMap be8) := list_reads (by decide) h.1 (fun x hx => num_reads (h.2 x hx)) (fun x _ => by rw [be8_length]; exact Nat.le_refl _)
theorem num_list_wrote : Wrote1 (listP 8 numP) (fun xs => be8 xs.length ++ xs.flatMap be8) (fun xs => Short xs.length ∧ ∀ y ∈ xs, InI y) := list_wrote 8 num_wrote
structure WEnt where
  term : Int
  kind : Int
  stamp : Int
  set : UInt8
  data : List UInt8
  deriving DecidableEq
def encWEnt (x : WEnt) : List UInt8 := be8 x.term ++ ([kindB x.kind] ++ (be8 x.stamp ++ ([x.set] ++ ((be8 x.data.length ++ x.data)))))
def goodWEnt (x : WEnt) : Prop := InI x.term ∧ KindIn x.kind ∧ InI x.stamp ∧ True ∧ Short x.data.length
def wEntP (l : List UInt8) (p : Nat) : Got WEnt := bindP (numP l p) fun v0 p => bindP (kindP l p) fun v1 p => bindP (numP l p) fun v2 p => bindP (smallP l p) fun v3 p => bindP (bytesP l p) fun v4 p => .ok (⟨v0, v1, v2, v3, v4⟩, p)
theorem wEnt_reads {x : WEnt} (h : goodWEnt x) : Reads wEntP x (encWEnt x) := by
  obtain ⟨v0, v1, v2, v3, v4⟩ := x
  obtain ⟨h0, h1, h2, h3, h4⟩ := h
  exact bind_reads (num_reads h0) (bind_reads (kind_reads h1) (bind_reads (num_reads h2) (bind_reads (small_reads _) (map_reads (g := fun z => (⟨v0, v1, v2, v3, z⟩ : WEnt)) (bytes_reads h4)))))
theorem wEnt_wrote : Wrote1 wEntP encWEnt goodWEnt := by
  refine bind_w (E := fun _ x => [kindB x.kind] ++ (be8 x.stamp ++ ([x.set] ++ ((be8 x.data.length ++ x.data))))) (G := fun v0 x => x.term = v0 ∧ KindIn x.kind ∧ InI x.stamp ∧ True ∧ Short x.data.length) num_wrote (fun v0 g0 => ?_) (fun v0 x g0 gx => ?_)
  · skip
    refine bind_w (E := fun _ x => be8 x.stamp ++ ([x.set] ++ ((be8 x.data.length ++ x.data)))) (G := fun v1 x => x.term = v0 ∧ x.kind = v1 ∧ InI x.stamp ∧ True ∧ Short x.data.length) kind_wrote (fun v1 g1 => ?_) (fun v1 x g1 gx => ?_)
    · skip
      refine bind_w (E := fun _ x => [x.set] ++ ((be8 x.data.length ++ x.data))) (G := fun v2 x => x.term = v0 ∧ x.kind = v1 ∧ x.stamp = v2 ∧ True ∧ Short x.data.length) num_wrote (fun v2 g2 => ?_) (fun v2 x g2 gx => ?_)
      · skip
        refine bind_w (E := fun _ x => (be8 x.data.length ++ x.data)) (G := fun v3 x => x.term = v0 ∧ x.kind = v1 ∧ x.stamp = v2 ∧ x.set = v3 ∧ Short x.data.length) small_wrote (fun v3 g3 => ?_) (fun v3 x g3 gx => ?_)
        · skip
          refine map_w bytes_wrote fun v4 g4 => ⟨rfl, ?_⟩
          exact ⟨rfl, rfl, rfl, rfl, g4⟩
        · obtain ⟨e0, e1, e2, e3, r4⟩ := gx
          subst e3
          exact ⟨rfl, e0, e1, e2, g3, r4⟩
      · obtain ⟨e0, e1, e2, r3, r4⟩ := gx
        subst e2
        exact ⟨rfl, e0, e1, g2, r3, r4⟩
    · obtain ⟨e0, e1, r2, r3, r4⟩ := gx
      subst e1
      exact ⟨rfl, e0, g1, r2, r3, r4⟩
  · obtain ⟨e0, r1, r2, r3, r4⟩ := gx
    subst e0
    exact ⟨rfl, g0, r1, r2, r3, r4⟩
theorem encWEnt_size (x : WEnt) : 26 ≤ (encWEnt x).length := by
  unfold encWEnt
  simp only [List.length_append, be8_length, List.length_cons, List.length_nil]
  omega
theorem wEnt_list_reads {xs : List WEnt} (h : Short xs.length ∧ ∀ y ∈ xs, goodWEnt y) : Reads (listP 26 wEntP) xs (be8 xs.length ++ xs.flatMap encWEnt) := list_reads (by decide) h.1 (fun x hx => wEnt_reads (h.2 x hx)) (fun x _ => encWEnt_size x)
theorem wEnt_list_wrote : Wrote1 (listP 26 wEntP) (fun xs => be8 xs.length ++ xs.flatMap encWEnt) (fun xs => Short xs.length ∧ ∀ y ∈ xs, goodWEnt y) := list_wrote 26 wEnt_wrote
structure WMsg where
  kind : Int
  src : Int
  dst : Int
  term : Int
  index : Int
  last : Int
  commit : Int
  ok : Bool
  entries : List WEnt
  sindex : Int
  sterm : Int
  sset : UInt8
  sdata : List UInt8
  data : List UInt8
  deriving DecidableEq
def encWMsg (x : WMsg) : List UInt8 := [kindB x.kind] ++ (be8 x.src ++ (be8 x.dst ++ (be8 x.term ++ (be8 x.index ++ (be8 x.last ++ (be8 x.commit ++ ([truthB x.ok] ++ ((be8 x.entries.length ++ x.entries.flatMap encWEnt) ++ (be8 x.sindex ++ (be8 x.sterm ++ ([x.sset] ++ ((be8 x.sdata.length ++ x.sdata) ++ ((be8 x.data.length ++ x.data))))))))))))))
def goodWMsg (x : WMsg) : Prop := KindIn x.kind ∧ InI x.src ∧ InI x.dst ∧ InI x.term ∧ InI x.index ∧ InI x.last ∧ InI x.commit ∧ True ∧ (Short x.entries.length ∧ ∀ y ∈ x.entries, goodWEnt y) ∧ InI x.sindex ∧ InI x.sterm ∧ True ∧ Short x.sdata.length ∧ Short x.data.length
def wMsgP (l : List UInt8) (p : Nat) : Got WMsg := bindP (kindP l p) fun v0 p => bindP (numP l p) fun v1 p => bindP (numP l p) fun v2 p => bindP (numP l p) fun v3 p => bindP (numP l p) fun v4 p => bindP (numP l p) fun v5 p => bindP (numP l p) fun v6 p => bindP (truthP l p) fun v7 p => bindP (listP 26 wEntP l p) fun v8 p => bindP (numP l p) fun v9 p => bindP (numP l p) fun v10 p => bindP (smallP l p) fun v11 p => bindP (bytesP l p) fun v12 p => bindP (bytesP l p) fun v13 p => .ok (⟨v0, v1, v2, v3, v4, v5, v6, v7, v8, v9, v10, v11, v12, v13⟩, p)
theorem wMsg_reads {x : WMsg} (h : goodWMsg x) : Reads wMsgP x (encWMsg x) := by
  obtain ⟨v0, v1, v2, v3, v4, v5, v6, v7, v8, v9, v10, v11, v12, v13⟩ := x
  obtain ⟨h0, h1, h2, h3, h4, h5, h6, h7, h8, h9, h10, h11, h12, h13⟩ := h
  exact bind_reads (kind_reads h0) (bind_reads (num_reads h1) (bind_reads (num_reads h2) (bind_reads (num_reads h3) (bind_reads (num_reads h4) (bind_reads (num_reads h5) (bind_reads (num_reads h6) (bind_reads (truth_reads _) (bind_reads (wEnt_list_reads h8) (bind_reads (num_reads h9) (bind_reads (num_reads h10) (bind_reads (small_reads _) (bind_reads (bytes_reads h12) (map_reads (g := fun z => (⟨v0, v1, v2, v3, v4, v5, v6, v7, v8, v9, v10, v11, v12, z⟩ : WMsg)) (bytes_reads h13))))))))))))))
theorem wMsg_wrote : Wrote1 wMsgP encWMsg goodWMsg := by
  refine bind_w (E := fun _ x => be8 x.src ++ (be8 x.dst ++ (be8 x.term ++ (be8 x.index ++ (be8 x.last ++ (be8 x.commit ++ ([truthB x.ok] ++ ((be8 x.entries.length ++ x.entries.flatMap encWEnt) ++ (be8 x.sindex ++ (be8 x.sterm ++ ([x.sset] ++ ((be8 x.sdata.length ++ x.sdata) ++ ((be8 x.data.length ++ x.data)))))))))))))) (G := fun v0 x => x.kind = v0 ∧ InI x.src ∧ InI x.dst ∧ InI x.term ∧ InI x.index ∧ InI x.last ∧ InI x.commit ∧ True ∧ (Short x.entries.length ∧ ∀ y ∈ x.entries, goodWEnt y) ∧ InI x.sindex ∧ InI x.sterm ∧ True ∧ Short x.sdata.length ∧ Short x.data.length) kind_wrote (fun v0 g0 => ?_) (fun v0 x g0 gx => ?_)
  · skip
    refine bind_w (E := fun _ x => be8 x.dst ++ (be8 x.term ++ (be8 x.index ++ (be8 x.last ++ (be8 x.commit ++ ([truthB x.ok] ++ ((be8 x.entries.length ++ x.entries.flatMap encWEnt) ++ (be8 x.sindex ++ (be8 x.sterm ++ ([x.sset] ++ ((be8 x.sdata.length ++ x.sdata) ++ ((be8 x.data.length ++ x.data))))))))))))) (G := fun v1 x => x.kind = v0 ∧ x.src = v1 ∧ InI x.dst ∧ InI x.term ∧ InI x.index ∧ InI x.last ∧ InI x.commit ∧ True ∧ (Short x.entries.length ∧ ∀ y ∈ x.entries, goodWEnt y) ∧ InI x.sindex ∧ InI x.sterm ∧ True ∧ Short x.sdata.length ∧ Short x.data.length) num_wrote (fun v1 g1 => ?_) (fun v1 x g1 gx => ?_)
    · skip
      refine bind_w (E := fun _ x => be8 x.term ++ (be8 x.index ++ (be8 x.last ++ (be8 x.commit ++ ([truthB x.ok] ++ ((be8 x.entries.length ++ x.entries.flatMap encWEnt) ++ (be8 x.sindex ++ (be8 x.sterm ++ ([x.sset] ++ ((be8 x.sdata.length ++ x.sdata) ++ ((be8 x.data.length ++ x.data)))))))))))) (G := fun v2 x => x.kind = v0 ∧ x.src = v1 ∧ x.dst = v2 ∧ InI x.term ∧ InI x.index ∧ InI x.last ∧ InI x.commit ∧ True ∧ (Short x.entries.length ∧ ∀ y ∈ x.entries, goodWEnt y) ∧ InI x.sindex ∧ InI x.sterm ∧ True ∧ Short x.sdata.length ∧ Short x.data.length) num_wrote (fun v2 g2 => ?_) (fun v2 x g2 gx => ?_)
      · skip
        refine bind_w (E := fun _ x => be8 x.index ++ (be8 x.last ++ (be8 x.commit ++ ([truthB x.ok] ++ ((be8 x.entries.length ++ x.entries.flatMap encWEnt) ++ (be8 x.sindex ++ (be8 x.sterm ++ ([x.sset] ++ ((be8 x.sdata.length ++ x.sdata) ++ ((be8 x.data.length ++ x.data))))))))))) (G := fun v3 x => x.kind = v0 ∧ x.src = v1 ∧ x.dst = v2 ∧ x.term = v3 ∧ InI x.index ∧ InI x.last ∧ InI x.commit ∧ True ∧ (Short x.entries.length ∧ ∀ y ∈ x.entries, goodWEnt y) ∧ InI x.sindex ∧ InI x.sterm ∧ True ∧ Short x.sdata.length ∧ Short x.data.length) num_wrote (fun v3 g3 => ?_) (fun v3 x g3 gx => ?_)
        · skip
          refine bind_w (E := fun _ x => be8 x.last ++ (be8 x.commit ++ ([truthB x.ok] ++ ((be8 x.entries.length ++ x.entries.flatMap encWEnt) ++ (be8 x.sindex ++ (be8 x.sterm ++ ([x.sset] ++ ((be8 x.sdata.length ++ x.sdata) ++ ((be8 x.data.length ++ x.data)))))))))) (G := fun v4 x => x.kind = v0 ∧ x.src = v1 ∧ x.dst = v2 ∧ x.term = v3 ∧ x.index = v4 ∧ InI x.last ∧ InI x.commit ∧ True ∧ (Short x.entries.length ∧ ∀ y ∈ x.entries, goodWEnt y) ∧ InI x.sindex ∧ InI x.sterm ∧ True ∧ Short x.sdata.length ∧ Short x.data.length) num_wrote (fun v4 g4 => ?_) (fun v4 x g4 gx => ?_)
          · skip
            refine bind_w (E := fun _ x => be8 x.commit ++ ([truthB x.ok] ++ ((be8 x.entries.length ++ x.entries.flatMap encWEnt) ++ (be8 x.sindex ++ (be8 x.sterm ++ ([x.sset] ++ ((be8 x.sdata.length ++ x.sdata) ++ ((be8 x.data.length ++ x.data))))))))) (G := fun v5 x => x.kind = v0 ∧ x.src = v1 ∧ x.dst = v2 ∧ x.term = v3 ∧ x.index = v4 ∧ x.last = v5 ∧ InI x.commit ∧ True ∧ (Short x.entries.length ∧ ∀ y ∈ x.entries, goodWEnt y) ∧ InI x.sindex ∧ InI x.sterm ∧ True ∧ Short x.sdata.length ∧ Short x.data.length) num_wrote (fun v5 g5 => ?_) (fun v5 x g5 gx => ?_)
            · skip
              refine bind_w (E := fun _ x => [truthB x.ok] ++ ((be8 x.entries.length ++ x.entries.flatMap encWEnt) ++ (be8 x.sindex ++ (be8 x.sterm ++ ([x.sset] ++ ((be8 x.sdata.length ++ x.sdata) ++ ((be8 x.data.length ++ x.data)))))))) (G := fun v6 x => x.kind = v0 ∧ x.src = v1 ∧ x.dst = v2 ∧ x.term = v3 ∧ x.index = v4 ∧ x.last = v5 ∧ x.commit = v6 ∧ True ∧ (Short x.entries.length ∧ ∀ y ∈ x.entries, goodWEnt y) ∧ InI x.sindex ∧ InI x.sterm ∧ True ∧ Short x.sdata.length ∧ Short x.data.length) num_wrote (fun v6 g6 => ?_) (fun v6 x g6 gx => ?_)
              · skip
                refine bind_w (E := fun _ x => (be8 x.entries.length ++ x.entries.flatMap encWEnt) ++ (be8 x.sindex ++ (be8 x.sterm ++ ([x.sset] ++ ((be8 x.sdata.length ++ x.sdata) ++ ((be8 x.data.length ++ x.data))))))) (G := fun v7 x => x.kind = v0 ∧ x.src = v1 ∧ x.dst = v2 ∧ x.term = v3 ∧ x.index = v4 ∧ x.last = v5 ∧ x.commit = v6 ∧ x.ok = v7 ∧ (Short x.entries.length ∧ ∀ y ∈ x.entries, goodWEnt y) ∧ InI x.sindex ∧ InI x.sterm ∧ True ∧ Short x.sdata.length ∧ Short x.data.length) truth_wrote (fun v7 g7 => ?_) (fun v7 x g7 gx => ?_)
                · skip
                  refine bind_w (E := fun _ x => be8 x.sindex ++ (be8 x.sterm ++ ([x.sset] ++ ((be8 x.sdata.length ++ x.sdata) ++ ((be8 x.data.length ++ x.data)))))) (G := fun v8 x => x.kind = v0 ∧ x.src = v1 ∧ x.dst = v2 ∧ x.term = v3 ∧ x.index = v4 ∧ x.last = v5 ∧ x.commit = v6 ∧ x.ok = v7 ∧ x.entries = v8 ∧ InI x.sindex ∧ InI x.sterm ∧ True ∧ Short x.sdata.length ∧ Short x.data.length) wEnt_list_wrote (fun v8 g8 => ?_) (fun v8 x g8 gx => ?_)
                  · skip
                    refine bind_w (E := fun _ x => be8 x.sterm ++ ([x.sset] ++ ((be8 x.sdata.length ++ x.sdata) ++ ((be8 x.data.length ++ x.data))))) (G := fun v9 x => x.kind = v0 ∧ x.src = v1 ∧ x.dst = v2 ∧ x.term = v3 ∧ x.index = v4 ∧ x.last = v5 ∧ x.commit = v6 ∧ x.ok = v7 ∧ x.entries = v8 ∧ x.sindex = v9 ∧ InI x.sterm ∧ True ∧ Short x.sdata.length ∧ Short x.data.length) num_wrote (fun v9 g9 => ?_) (fun v9 x g9 gx => ?_)
                    · skip
                      refine bind_w (E := fun _ x => [x.sset] ++ ((be8 x.sdata.length ++ x.sdata) ++ ((be8 x.data.length ++ x.data)))) (G := fun v10 x => x.kind = v0 ∧ x.src = v1 ∧ x.dst = v2 ∧ x.term = v3 ∧ x.index = v4 ∧ x.last = v5 ∧ x.commit = v6 ∧ x.ok = v7 ∧ x.entries = v8 ∧ x.sindex = v9 ∧ x.sterm = v10 ∧ True ∧ Short x.sdata.length ∧ Short x.data.length) num_wrote (fun v10 g10 => ?_) (fun v10 x g10 gx => ?_)
                      · skip
                        refine bind_w (E := fun _ x => (be8 x.sdata.length ++ x.sdata) ++ ((be8 x.data.length ++ x.data))) (G := fun v11 x => x.kind = v0 ∧ x.src = v1 ∧ x.dst = v2 ∧ x.term = v3 ∧ x.index = v4 ∧ x.last = v5 ∧ x.commit = v6 ∧ x.ok = v7 ∧ x.entries = v8 ∧ x.sindex = v9 ∧ x.sterm = v10 ∧ x.sset = v11 ∧ Short x.sdata.length ∧ Short x.data.length) small_wrote (fun v11 g11 => ?_) (fun v11 x g11 gx => ?_)
                        · skip
                          refine bind_w (E := fun _ x => (be8 x.data.length ++ x.data)) (G := fun v12 x => x.kind = v0 ∧ x.src = v1 ∧ x.dst = v2 ∧ x.term = v3 ∧ x.index = v4 ∧ x.last = v5 ∧ x.commit = v6 ∧ x.ok = v7 ∧ x.entries = v8 ∧ x.sindex = v9 ∧ x.sterm = v10 ∧ x.sset = v11 ∧ x.sdata = v12 ∧ Short x.data.length) bytes_wrote (fun v12 g12 => ?_) (fun v12 x g12 gx => ?_)
                          · skip
                            refine map_w bytes_wrote fun v13 g13 => ⟨rfl, ?_⟩
                            exact ⟨rfl, rfl, rfl, rfl, rfl, rfl, rfl, rfl, rfl, rfl, rfl, rfl, rfl, g13⟩
                          · obtain ⟨e0, e1, e2, e3, e4, e5, e6, e7, e8, e9, e10, e11, e12, r13⟩ := gx
                            subst e12
                            exact ⟨rfl, e0, e1, e2, e3, e4, e5, e6, e7, e8, e9, e10, e11, g12, r13⟩
                        · obtain ⟨e0, e1, e2, e3, e4, e5, e6, e7, e8, e9, e10, e11, r12, r13⟩ := gx
                          subst e11
                          exact ⟨rfl, e0, e1, e2, e3, e4, e5, e6, e7, e8, e9, e10, g11, r12, r13⟩
                      · obtain ⟨e0, e1, e2, e3, e4, e5, e6, e7, e8, e9, e10, r11, r12, r13⟩ := gx
                        subst e10
                        exact ⟨rfl, e0, e1, e2, e3, e4, e5, e6, e7, e8, e9, g10, r11, r12, r13⟩
                    · obtain ⟨e0, e1, e2, e3, e4, e5, e6, e7, e8, e9, r10, r11, r12, r13⟩ := gx
                      subst e9
                      exact ⟨rfl, e0, e1, e2, e3, e4, e5, e6, e7, e8, g9, r10, r11, r12, r13⟩
                  · obtain ⟨e0, e1, e2, e3, e4, e5, e6, e7, e8, r9, r10, r11, r12, r13⟩ := gx
                    subst e8
                    exact ⟨rfl, e0, e1, e2, e3, e4, e5, e6, e7, g8, r9, r10, r11, r12, r13⟩
                · obtain ⟨e0, e1, e2, e3, e4, e5, e6, e7, r8, r9, r10, r11, r12, r13⟩ := gx
                  subst e7
                  exact ⟨rfl, e0, e1, e2, e3, e4, e5, e6, g7, r8, r9, r10, r11, r12, r13⟩
              · obtain ⟨e0, e1, e2, e3, e4, e5, e6, r7, r8, r9, r10, r11, r12, r13⟩ := gx
                subst e6
                exact ⟨rfl, e0, e1, e2, e3, e4, e5, g6, r7, r8, r9, r10, r11, r12, r13⟩
            · obtain ⟨e0, e1, e2, e3, e4, e5, r6, r7, r8, r9, r10, r11, r12, r13⟩ := gx
              subst e5
              exact ⟨rfl, e0, e1, e2, e3, e4, g5, r6, r7, r8, r9, r10, r11, r12, r13⟩
          · obtain ⟨e0, e1, e2, e3, e4, r5, r6, r7, r8, r9, r10, r11, r12, r13⟩ := gx
            subst e4
            exact ⟨rfl, e0, e1, e2, e3, g4, r5, r6, r7, r8, r9, r10, r11, r12, r13⟩
        · obtain ⟨e0, e1, e2, e3, r4, r5, r6, r7, r8, r9, r10, r11, r12, r13⟩ := gx
          subst e3
          exact ⟨rfl, e0, e1, e2, g3, r4, r5, r6, r7, r8, r9, r10, r11, r12, r13⟩
      · obtain ⟨e0, e1, e2, r3, r4, r5, r6, r7, r8, r9, r10, r11, r12, r13⟩ := gx
        subst e2
        exact ⟨rfl, e0, e1, g2, r3, r4, r5, r6, r7, r8, r9, r10, r11, r12, r13⟩
    · obtain ⟨e0, e1, r2, r3, r4, r5, r6, r7, r8, r9, r10, r11, r12, r13⟩ := gx
      subst e1
      exact ⟨rfl, e0, g1, r2, r3, r4, r5, r6, r7, r8, r9, r10, r11, r12, r13⟩
  · obtain ⟨e0, r1, r2, r3, r4, r5, r6, r7, r8, r9, r10, r11, r12, r13⟩ := gx
    subst e0
    exact ⟨rfl, g0, r1, r2, r3, r4, r5, r6, r7, r8, r9, r10, r11, r12, r13⟩
structure WCmd where
  kind : Int
  client : Int
  number : Int
  tenant : Int
  rate : Int
  burst : Int
  shaper : Int
  epoch : Int
  lease : Int
  size : Int
  spent : Int
  closed : Bool
  leases : List Int
  deriving DecidableEq
def encWCmd (x : WCmd) : List UInt8 := [kindB x.kind] ++ (be8 x.client ++ (be8 x.number ++ (be8 x.tenant ++ (be8 x.rate ++ (be8 x.burst ++ (be8 x.shaper ++ (be8 x.epoch ++ (be8 x.lease ++ (be8 x.size ++ (be8 x.spent ++ ([truthB x.closed] ++ ((be8 x.leases.length ++ x.leases.flatMap be8)))))))))))))
def goodWCmd (x : WCmd) : Prop := KindIn x.kind ∧ InI x.client ∧ InI x.number ∧ InI x.tenant ∧ InI x.rate ∧ InI x.burst ∧ InI x.shaper ∧ InI x.epoch ∧ InI x.lease ∧ InI x.size ∧ InI x.spent ∧ True ∧ (Short x.leases.length ∧ ∀ y ∈ x.leases, InI y)
def wCmdP (l : List UInt8) (p : Nat) : Got WCmd := bindP (kindP l p) fun v0 p => bindP (numP l p) fun v1 p => bindP (numP l p) fun v2 p => bindP (numP l p) fun v3 p => bindP (numP l p) fun v4 p => bindP (numP l p) fun v5 p => bindP (numP l p) fun v6 p => bindP (numP l p) fun v7 p => bindP (numP l p) fun v8 p => bindP (numP l p) fun v9 p => bindP (numP l p) fun v10 p => bindP (truthP l p) fun v11 p => bindP (listP 8 numP l p) fun v12 p => .ok (⟨v0, v1, v2, v3, v4, v5, v6, v7, v8, v9, v10, v11, v12⟩, p)
theorem wCmd_reads {x : WCmd} (h : goodWCmd x) : Reads wCmdP x (encWCmd x) := by
  obtain ⟨v0, v1, v2, v3, v4, v5, v6, v7, v8, v9, v10, v11, v12⟩ := x
  obtain ⟨h0, h1, h2, h3, h4, h5, h6, h7, h8, h9, h10, h11, h12⟩ := h
  exact bind_reads (kind_reads h0) (bind_reads (num_reads h1) (bind_reads (num_reads h2) (bind_reads (num_reads h3) (bind_reads (num_reads h4) (bind_reads (num_reads h5) (bind_reads (num_reads h6) (bind_reads (num_reads h7) (bind_reads (num_reads h8) (bind_reads (num_reads h9) (bind_reads (num_reads h10) (bind_reads (truth_reads _) (map_reads (g := fun z => (⟨v0, v1, v2, v3, v4, v5, v6, v7, v8, v9, v10, v11, z⟩ : WCmd)) (num_list_reads h12)))))))))))))
theorem wCmd_wrote : Wrote1 wCmdP encWCmd goodWCmd := by
  refine bind_w (E := fun _ x => be8 x.client ++ (be8 x.number ++ (be8 x.tenant ++ (be8 x.rate ++ (be8 x.burst ++ (be8 x.shaper ++ (be8 x.epoch ++ (be8 x.lease ++ (be8 x.size ++ (be8 x.spent ++ ([truthB x.closed] ++ ((be8 x.leases.length ++ x.leases.flatMap be8))))))))))))) (G := fun v0 x => x.kind = v0 ∧ InI x.client ∧ InI x.number ∧ InI x.tenant ∧ InI x.rate ∧ InI x.burst ∧ InI x.shaper ∧ InI x.epoch ∧ InI x.lease ∧ InI x.size ∧ InI x.spent ∧ True ∧ (Short x.leases.length ∧ ∀ y ∈ x.leases, InI y)) kind_wrote (fun v0 g0 => ?_) (fun v0 x g0 gx => ?_)
  · skip
    refine bind_w (E := fun _ x => be8 x.number ++ (be8 x.tenant ++ (be8 x.rate ++ (be8 x.burst ++ (be8 x.shaper ++ (be8 x.epoch ++ (be8 x.lease ++ (be8 x.size ++ (be8 x.spent ++ ([truthB x.closed] ++ ((be8 x.leases.length ++ x.leases.flatMap be8)))))))))))) (G := fun v1 x => x.kind = v0 ∧ x.client = v1 ∧ InI x.number ∧ InI x.tenant ∧ InI x.rate ∧ InI x.burst ∧ InI x.shaper ∧ InI x.epoch ∧ InI x.lease ∧ InI x.size ∧ InI x.spent ∧ True ∧ (Short x.leases.length ∧ ∀ y ∈ x.leases, InI y)) num_wrote (fun v1 g1 => ?_) (fun v1 x g1 gx => ?_)
    · skip
      refine bind_w (E := fun _ x => be8 x.tenant ++ (be8 x.rate ++ (be8 x.burst ++ (be8 x.shaper ++ (be8 x.epoch ++ (be8 x.lease ++ (be8 x.size ++ (be8 x.spent ++ ([truthB x.closed] ++ ((be8 x.leases.length ++ x.leases.flatMap be8))))))))))) (G := fun v2 x => x.kind = v0 ∧ x.client = v1 ∧ x.number = v2 ∧ InI x.tenant ∧ InI x.rate ∧ InI x.burst ∧ InI x.shaper ∧ InI x.epoch ∧ InI x.lease ∧ InI x.size ∧ InI x.spent ∧ True ∧ (Short x.leases.length ∧ ∀ y ∈ x.leases, InI y)) num_wrote (fun v2 g2 => ?_) (fun v2 x g2 gx => ?_)
      · skip
        refine bind_w (E := fun _ x => be8 x.rate ++ (be8 x.burst ++ (be8 x.shaper ++ (be8 x.epoch ++ (be8 x.lease ++ (be8 x.size ++ (be8 x.spent ++ ([truthB x.closed] ++ ((be8 x.leases.length ++ x.leases.flatMap be8)))))))))) (G := fun v3 x => x.kind = v0 ∧ x.client = v1 ∧ x.number = v2 ∧ x.tenant = v3 ∧ InI x.rate ∧ InI x.burst ∧ InI x.shaper ∧ InI x.epoch ∧ InI x.lease ∧ InI x.size ∧ InI x.spent ∧ True ∧ (Short x.leases.length ∧ ∀ y ∈ x.leases, InI y)) num_wrote (fun v3 g3 => ?_) (fun v3 x g3 gx => ?_)
        · skip
          refine bind_w (E := fun _ x => be8 x.burst ++ (be8 x.shaper ++ (be8 x.epoch ++ (be8 x.lease ++ (be8 x.size ++ (be8 x.spent ++ ([truthB x.closed] ++ ((be8 x.leases.length ++ x.leases.flatMap be8))))))))) (G := fun v4 x => x.kind = v0 ∧ x.client = v1 ∧ x.number = v2 ∧ x.tenant = v3 ∧ x.rate = v4 ∧ InI x.burst ∧ InI x.shaper ∧ InI x.epoch ∧ InI x.lease ∧ InI x.size ∧ InI x.spent ∧ True ∧ (Short x.leases.length ∧ ∀ y ∈ x.leases, InI y)) num_wrote (fun v4 g4 => ?_) (fun v4 x g4 gx => ?_)
          · skip
            refine bind_w (E := fun _ x => be8 x.shaper ++ (be8 x.epoch ++ (be8 x.lease ++ (be8 x.size ++ (be8 x.spent ++ ([truthB x.closed] ++ ((be8 x.leases.length ++ x.leases.flatMap be8)))))))) (G := fun v5 x => x.kind = v0 ∧ x.client = v1 ∧ x.number = v2 ∧ x.tenant = v3 ∧ x.rate = v4 ∧ x.burst = v5 ∧ InI x.shaper ∧ InI x.epoch ∧ InI x.lease ∧ InI x.size ∧ InI x.spent ∧ True ∧ (Short x.leases.length ∧ ∀ y ∈ x.leases, InI y)) num_wrote (fun v5 g5 => ?_) (fun v5 x g5 gx => ?_)
            · skip
              refine bind_w (E := fun _ x => be8 x.epoch ++ (be8 x.lease ++ (be8 x.size ++ (be8 x.spent ++ ([truthB x.closed] ++ ((be8 x.leases.length ++ x.leases.flatMap be8))))))) (G := fun v6 x => x.kind = v0 ∧ x.client = v1 ∧ x.number = v2 ∧ x.tenant = v3 ∧ x.rate = v4 ∧ x.burst = v5 ∧ x.shaper = v6 ∧ InI x.epoch ∧ InI x.lease ∧ InI x.size ∧ InI x.spent ∧ True ∧ (Short x.leases.length ∧ ∀ y ∈ x.leases, InI y)) num_wrote (fun v6 g6 => ?_) (fun v6 x g6 gx => ?_)
              · skip
                refine bind_w (E := fun _ x => be8 x.lease ++ (be8 x.size ++ (be8 x.spent ++ ([truthB x.closed] ++ ((be8 x.leases.length ++ x.leases.flatMap be8)))))) (G := fun v7 x => x.kind = v0 ∧ x.client = v1 ∧ x.number = v2 ∧ x.tenant = v3 ∧ x.rate = v4 ∧ x.burst = v5 ∧ x.shaper = v6 ∧ x.epoch = v7 ∧ InI x.lease ∧ InI x.size ∧ InI x.spent ∧ True ∧ (Short x.leases.length ∧ ∀ y ∈ x.leases, InI y)) num_wrote (fun v7 g7 => ?_) (fun v7 x g7 gx => ?_)
                · skip
                  refine bind_w (E := fun _ x => be8 x.size ++ (be8 x.spent ++ ([truthB x.closed] ++ ((be8 x.leases.length ++ x.leases.flatMap be8))))) (G := fun v8 x => x.kind = v0 ∧ x.client = v1 ∧ x.number = v2 ∧ x.tenant = v3 ∧ x.rate = v4 ∧ x.burst = v5 ∧ x.shaper = v6 ∧ x.epoch = v7 ∧ x.lease = v8 ∧ InI x.size ∧ InI x.spent ∧ True ∧ (Short x.leases.length ∧ ∀ y ∈ x.leases, InI y)) num_wrote (fun v8 g8 => ?_) (fun v8 x g8 gx => ?_)
                  · skip
                    refine bind_w (E := fun _ x => be8 x.spent ++ ([truthB x.closed] ++ ((be8 x.leases.length ++ x.leases.flatMap be8)))) (G := fun v9 x => x.kind = v0 ∧ x.client = v1 ∧ x.number = v2 ∧ x.tenant = v3 ∧ x.rate = v4 ∧ x.burst = v5 ∧ x.shaper = v6 ∧ x.epoch = v7 ∧ x.lease = v8 ∧ x.size = v9 ∧ InI x.spent ∧ True ∧ (Short x.leases.length ∧ ∀ y ∈ x.leases, InI y)) num_wrote (fun v9 g9 => ?_) (fun v9 x g9 gx => ?_)
                    · skip
                      refine bind_w (E := fun _ x => [truthB x.closed] ++ ((be8 x.leases.length ++ x.leases.flatMap be8))) (G := fun v10 x => x.kind = v0 ∧ x.client = v1 ∧ x.number = v2 ∧ x.tenant = v3 ∧ x.rate = v4 ∧ x.burst = v5 ∧ x.shaper = v6 ∧ x.epoch = v7 ∧ x.lease = v8 ∧ x.size = v9 ∧ x.spent = v10 ∧ True ∧ (Short x.leases.length ∧ ∀ y ∈ x.leases, InI y)) num_wrote (fun v10 g10 => ?_) (fun v10 x g10 gx => ?_)
                      · skip
                        refine bind_w (E := fun _ x => (be8 x.leases.length ++ x.leases.flatMap be8)) (G := fun v11 x => x.kind = v0 ∧ x.client = v1 ∧ x.number = v2 ∧ x.tenant = v3 ∧ x.rate = v4 ∧ x.burst = v5 ∧ x.shaper = v6 ∧ x.epoch = v7 ∧ x.lease = v8 ∧ x.size = v9 ∧ x.spent = v10 ∧ x.closed = v11 ∧ (Short x.leases.length ∧ ∀ y ∈ x.leases, InI y)) truth_wrote (fun v11 g11 => ?_) (fun v11 x g11 gx => ?_)
                        · skip
                          refine map_w num_list_wrote fun v12 g12 => ⟨rfl, ?_⟩
                          exact ⟨rfl, rfl, rfl, rfl, rfl, rfl, rfl, rfl, rfl, rfl, rfl, rfl, g12⟩
                        · obtain ⟨e0, e1, e2, e3, e4, e5, e6, e7, e8, e9, e10, e11, r12⟩ := gx
                          subst e11
                          exact ⟨rfl, e0, e1, e2, e3, e4, e5, e6, e7, e8, e9, e10, g11, r12⟩
                      · obtain ⟨e0, e1, e2, e3, e4, e5, e6, e7, e8, e9, e10, r11, r12⟩ := gx
                        subst e10
                        exact ⟨rfl, e0, e1, e2, e3, e4, e5, e6, e7, e8, e9, g10, r11, r12⟩
                    · obtain ⟨e0, e1, e2, e3, e4, e5, e6, e7, e8, e9, r10, r11, r12⟩ := gx
                      subst e9
                      exact ⟨rfl, e0, e1, e2, e3, e4, e5, e6, e7, e8, g9, r10, r11, r12⟩
                  · obtain ⟨e0, e1, e2, e3, e4, e5, e6, e7, e8, r9, r10, r11, r12⟩ := gx
                    subst e8
                    exact ⟨rfl, e0, e1, e2, e3, e4, e5, e6, e7, g8, r9, r10, r11, r12⟩
                · obtain ⟨e0, e1, e2, e3, e4, e5, e6, e7, r8, r9, r10, r11, r12⟩ := gx
                  subst e7
                  exact ⟨rfl, e0, e1, e2, e3, e4, e5, e6, g7, r8, r9, r10, r11, r12⟩
              · obtain ⟨e0, e1, e2, e3, e4, e5, e6, r7, r8, r9, r10, r11, r12⟩ := gx
                subst e6
                exact ⟨rfl, e0, e1, e2, e3, e4, e5, g6, r7, r8, r9, r10, r11, r12⟩
            · obtain ⟨e0, e1, e2, e3, e4, e5, r6, r7, r8, r9, r10, r11, r12⟩ := gx
              subst e5
              exact ⟨rfl, e0, e1, e2, e3, e4, g5, r6, r7, r8, r9, r10, r11, r12⟩
          · obtain ⟨e0, e1, e2, e3, e4, r5, r6, r7, r8, r9, r10, r11, r12⟩ := gx
            subst e4
            exact ⟨rfl, e0, e1, e2, e3, g4, r5, r6, r7, r8, r9, r10, r11, r12⟩
        · obtain ⟨e0, e1, e2, e3, r4, r5, r6, r7, r8, r9, r10, r11, r12⟩ := gx
          subst e3
          exact ⟨rfl, e0, e1, e2, g3, r4, r5, r6, r7, r8, r9, r10, r11, r12⟩
      · obtain ⟨e0, e1, e2, r3, r4, r5, r6, r7, r8, r9, r10, r11, r12⟩ := gx
        subst e2
        exact ⟨rfl, e0, e1, g2, r3, r4, r5, r6, r7, r8, r9, r10, r11, r12⟩
    · obtain ⟨e0, e1, r2, r3, r4, r5, r6, r7, r8, r9, r10, r11, r12⟩ := gx
      subst e1
      exact ⟨rfl, e0, g1, r2, r3, r4, r5, r6, r7, r8, r9, r10, r11, r12⟩
  · obtain ⟨e0, r1, r2, r3, r4, r5, r6, r7, r8, r9, r10, r11, r12⟩ := gx
    subst e0
    exact ⟨rfl, g0, r1, r2, r3, r4, r5, r6, r7, r8, r9, r10, r11, r12⟩
structure WAns where
  e : Int
  rate : Int
  burst : Int
  lease : Int
  size : Int
  deriving DecidableEq
def encWAns (x : WAns) : List UInt8 := be8 x.e ++ (be8 x.rate ++ (be8 x.burst ++ (be8 x.lease ++ (be8 x.size))))
def goodWAns (x : WAns) : Prop := InI x.e ∧ InI x.rate ∧ InI x.burst ∧ InI x.lease ∧ InI x.size
def wAnsP (l : List UInt8) (p : Nat) : Got WAns := bindP (numP l p) fun v0 p => bindP (numP l p) fun v1 p => bindP (numP l p) fun v2 p => bindP (numP l p) fun v3 p => bindP (numP l p) fun v4 p => .ok (⟨v0, v1, v2, v3, v4⟩, p)
theorem wAns_reads {x : WAns} (h : goodWAns x) : Reads wAnsP x (encWAns x) := by
  obtain ⟨v0, v1, v2, v3, v4⟩ := x
  obtain ⟨h0, h1, h2, h3, h4⟩ := h
  exact bind_reads (num_reads h0) (bind_reads (num_reads h1) (bind_reads (num_reads h2) (bind_reads (num_reads h3) (map_reads (g := fun z => (⟨v0, v1, v2, v3, z⟩ : WAns)) (num_reads h4)))))
theorem wAns_wrote : Wrote1 wAnsP encWAns goodWAns := by
  refine bind_w (E := fun _ x => be8 x.rate ++ (be8 x.burst ++ (be8 x.lease ++ (be8 x.size)))) (G := fun v0 x => x.e = v0 ∧ InI x.rate ∧ InI x.burst ∧ InI x.lease ∧ InI x.size) num_wrote (fun v0 g0 => ?_) (fun v0 x g0 gx => ?_)
  · skip
    refine bind_w (E := fun _ x => be8 x.burst ++ (be8 x.lease ++ (be8 x.size))) (G := fun v1 x => x.e = v0 ∧ x.rate = v1 ∧ InI x.burst ∧ InI x.lease ∧ InI x.size) num_wrote (fun v1 g1 => ?_) (fun v1 x g1 gx => ?_)
    · skip
      refine bind_w (E := fun _ x => be8 x.lease ++ (be8 x.size)) (G := fun v2 x => x.e = v0 ∧ x.rate = v1 ∧ x.burst = v2 ∧ InI x.lease ∧ InI x.size) num_wrote (fun v2 g2 => ?_) (fun v2 x g2 gx => ?_)
      · skip
        refine bind_w (E := fun _ x => be8 x.size) (G := fun v3 x => x.e = v0 ∧ x.rate = v1 ∧ x.burst = v2 ∧ x.lease = v3 ∧ InI x.size) num_wrote (fun v3 g3 => ?_) (fun v3 x g3 gx => ?_)
        · skip
          refine map_w num_wrote fun v4 g4 => ⟨rfl, ?_⟩
          exact ⟨rfl, rfl, rfl, rfl, g4⟩
        · obtain ⟨e0, e1, e2, e3, r4⟩ := gx
          subst e3
          exact ⟨rfl, e0, e1, e2, g3, r4⟩
      · obtain ⟨e0, e1, e2, r3, r4⟩ := gx
        subst e2
        exact ⟨rfl, e0, e1, g2, r3, r4⟩
    · obtain ⟨e0, e1, r2, r3, r4⟩ := gx
      subst e1
      exact ⟨rfl, e0, g1, r2, r3, r4⟩
  · obtain ⟨e0, r1, r2, r3, r4⟩ := gx
    subst e0
    exact ⟨rfl, g0, r1, r2, r3, r4⟩
structure WTen where
  id : Int
  rate : Int
  burst : Int
  bucket : Int
  gone : Bool
  deriving DecidableEq
def encWTen (x : WTen) : List UInt8 := be8 x.id ++ (be8 x.rate ++ (be8 x.burst ++ (be8 x.bucket ++ ([truthB x.gone]))))
def goodWTen (x : WTen) : Prop := InI x.id ∧ InI x.rate ∧ InI x.burst ∧ InI x.bucket ∧ True
def wTenP (l : List UInt8) (p : Nat) : Got WTen := bindP (numP l p) fun v0 p => bindP (numP l p) fun v1 p => bindP (numP l p) fun v2 p => bindP (numP l p) fun v3 p => bindP (truthP l p) fun v4 p => .ok (⟨v0, v1, v2, v3, v4⟩, p)
theorem wTen_reads {x : WTen} (h : goodWTen x) : Reads wTenP x (encWTen x) := by
  obtain ⟨v0, v1, v2, v3, v4⟩ := x
  obtain ⟨h0, h1, h2, h3, h4⟩ := h
  exact bind_reads (num_reads h0) (bind_reads (num_reads h1) (bind_reads (num_reads h2) (bind_reads (num_reads h3) (map_reads (g := fun z => (⟨v0, v1, v2, v3, z⟩ : WTen)) (truth_reads _)))))
theorem wTen_wrote : Wrote1 wTenP encWTen goodWTen := by
  refine bind_w (E := fun _ x => be8 x.rate ++ (be8 x.burst ++ (be8 x.bucket ++ ([truthB x.gone])))) (G := fun v0 x => x.id = v0 ∧ InI x.rate ∧ InI x.burst ∧ InI x.bucket ∧ True) num_wrote (fun v0 g0 => ?_) (fun v0 x g0 gx => ?_)
  · skip
    refine bind_w (E := fun _ x => be8 x.burst ++ (be8 x.bucket ++ ([truthB x.gone]))) (G := fun v1 x => x.id = v0 ∧ x.rate = v1 ∧ InI x.burst ∧ InI x.bucket ∧ True) num_wrote (fun v1 g1 => ?_) (fun v1 x g1 gx => ?_)
    · skip
      refine bind_w (E := fun _ x => be8 x.bucket ++ ([truthB x.gone])) (G := fun v2 x => x.id = v0 ∧ x.rate = v1 ∧ x.burst = v2 ∧ InI x.bucket ∧ True) num_wrote (fun v2 g2 => ?_) (fun v2 x g2 gx => ?_)
      · skip
        refine bind_w (E := fun _ x => [truthB x.gone]) (G := fun v3 x => x.id = v0 ∧ x.rate = v1 ∧ x.burst = v2 ∧ x.bucket = v3 ∧ True) num_wrote (fun v3 g3 => ?_) (fun v3 x g3 gx => ?_)
        · skip
          refine map_w truth_wrote fun v4 g4 => ⟨rfl, ?_⟩
          exact ⟨rfl, rfl, rfl, rfl, g4⟩
        · obtain ⟨e0, e1, e2, e3, r4⟩ := gx
          subst e3
          exact ⟨rfl, e0, e1, e2, g3, r4⟩
      · obtain ⟨e0, e1, e2, r3, r4⟩ := gx
        subst e2
        exact ⟨rfl, e0, e1, g2, r3, r4⟩
    · obtain ⟨e0, e1, r2, r3, r4⟩ := gx
      subst e1
      exact ⟨rfl, e0, g1, r2, r3, r4⟩
  · obtain ⟨e0, r1, r2, r3, r4⟩ := gx
    subst e0
    exact ⟨rfl, g0, r1, r2, r3, r4⟩
theorem encWTen_size (x : WTen) : 33 ≤ (encWTen x).length := by
  unfold encWTen
  simp only [List.length_append, be8_length, List.length_cons, List.length_nil]
  omega
theorem wTen_list_reads {xs : List WTen} (h : Short xs.length ∧ ∀ y ∈ xs, goodWTen y) : Reads (listP 33 wTenP) xs (be8 xs.length ++ xs.flatMap encWTen) := list_reads (by decide) h.1 (fun x hx => wTen_reads (h.2 x hx)) (fun x _ => encWTen_size x)
theorem wTen_list_wrote : Wrote1 (listP 33 wTenP) (fun xs => be8 xs.length ++ xs.flatMap encWTen) (fun xs => Short xs.length ∧ ∀ y ∈ xs, goodWTen y) := list_wrote 33 wTen_wrote
structure WLea where
  id : Int
  tenant : Int
  shaper : Int
  epoch : Int
  number : Int
  size : Int
  spent : Int
  deriving DecidableEq
def encWLea (x : WLea) : List UInt8 := be8 x.id ++ (be8 x.tenant ++ (be8 x.shaper ++ (be8 x.epoch ++ (be8 x.number ++ (be8 x.size ++ (be8 x.spent))))))
def goodWLea (x : WLea) : Prop := InI x.id ∧ InI x.tenant ∧ InI x.shaper ∧ InI x.epoch ∧ InI x.number ∧ InI x.size ∧ InI x.spent
def wLeaP (l : List UInt8) (p : Nat) : Got WLea := bindP (numP l p) fun v0 p => bindP (numP l p) fun v1 p => bindP (numP l p) fun v2 p => bindP (numP l p) fun v3 p => bindP (numP l p) fun v4 p => bindP (numP l p) fun v5 p => bindP (numP l p) fun v6 p => .ok (⟨v0, v1, v2, v3, v4, v5, v6⟩, p)
theorem wLea_reads {x : WLea} (h : goodWLea x) : Reads wLeaP x (encWLea x) := by
  obtain ⟨v0, v1, v2, v3, v4, v5, v6⟩ := x
  obtain ⟨h0, h1, h2, h3, h4, h5, h6⟩ := h
  exact bind_reads (num_reads h0) (bind_reads (num_reads h1) (bind_reads (num_reads h2) (bind_reads (num_reads h3) (bind_reads (num_reads h4) (bind_reads (num_reads h5) (map_reads (g := fun z => (⟨v0, v1, v2, v3, v4, v5, z⟩ : WLea)) (num_reads h6)))))))
theorem wLea_wrote : Wrote1 wLeaP encWLea goodWLea := by
  refine bind_w (E := fun _ x => be8 x.tenant ++ (be8 x.shaper ++ (be8 x.epoch ++ (be8 x.number ++ (be8 x.size ++ (be8 x.spent)))))) (G := fun v0 x => x.id = v0 ∧ InI x.tenant ∧ InI x.shaper ∧ InI x.epoch ∧ InI x.number ∧ InI x.size ∧ InI x.spent) num_wrote (fun v0 g0 => ?_) (fun v0 x g0 gx => ?_)
  · skip
    refine bind_w (E := fun _ x => be8 x.shaper ++ (be8 x.epoch ++ (be8 x.number ++ (be8 x.size ++ (be8 x.spent))))) (G := fun v1 x => x.id = v0 ∧ x.tenant = v1 ∧ InI x.shaper ∧ InI x.epoch ∧ InI x.number ∧ InI x.size ∧ InI x.spent) num_wrote (fun v1 g1 => ?_) (fun v1 x g1 gx => ?_)
    · skip
      refine bind_w (E := fun _ x => be8 x.epoch ++ (be8 x.number ++ (be8 x.size ++ (be8 x.spent)))) (G := fun v2 x => x.id = v0 ∧ x.tenant = v1 ∧ x.shaper = v2 ∧ InI x.epoch ∧ InI x.number ∧ InI x.size ∧ InI x.spent) num_wrote (fun v2 g2 => ?_) (fun v2 x g2 gx => ?_)
      · skip
        refine bind_w (E := fun _ x => be8 x.number ++ (be8 x.size ++ (be8 x.spent))) (G := fun v3 x => x.id = v0 ∧ x.tenant = v1 ∧ x.shaper = v2 ∧ x.epoch = v3 ∧ InI x.number ∧ InI x.size ∧ InI x.spent) num_wrote (fun v3 g3 => ?_) (fun v3 x g3 gx => ?_)
        · skip
          refine bind_w (E := fun _ x => be8 x.size ++ (be8 x.spent)) (G := fun v4 x => x.id = v0 ∧ x.tenant = v1 ∧ x.shaper = v2 ∧ x.epoch = v3 ∧ x.number = v4 ∧ InI x.size ∧ InI x.spent) num_wrote (fun v4 g4 => ?_) (fun v4 x g4 gx => ?_)
          · skip
            refine bind_w (E := fun _ x => be8 x.spent) (G := fun v5 x => x.id = v0 ∧ x.tenant = v1 ∧ x.shaper = v2 ∧ x.epoch = v3 ∧ x.number = v4 ∧ x.size = v5 ∧ InI x.spent) num_wrote (fun v5 g5 => ?_) (fun v5 x g5 gx => ?_)
            · skip
              refine map_w num_wrote fun v6 g6 => ⟨rfl, ?_⟩
              exact ⟨rfl, rfl, rfl, rfl, rfl, rfl, g6⟩
            · obtain ⟨e0, e1, e2, e3, e4, e5, r6⟩ := gx
              subst e5
              exact ⟨rfl, e0, e1, e2, e3, e4, g5, r6⟩
          · obtain ⟨e0, e1, e2, e3, e4, r5, r6⟩ := gx
            subst e4
            exact ⟨rfl, e0, e1, e2, e3, g4, r5, r6⟩
        · obtain ⟨e0, e1, e2, e3, r4, r5, r6⟩ := gx
          subst e3
          exact ⟨rfl, e0, e1, e2, g3, r4, r5, r6⟩
      · obtain ⟨e0, e1, e2, r3, r4, r5, r6⟩ := gx
        subst e2
        exact ⟨rfl, e0, e1, g2, r3, r4, r5, r6⟩
    · obtain ⟨e0, e1, r2, r3, r4, r5, r6⟩ := gx
      subst e1
      exact ⟨rfl, e0, g1, r2, r3, r4, r5, r6⟩
  · obtain ⟨e0, r1, r2, r3, r4, r5, r6⟩ := gx
    subst e0
    exact ⟨rfl, g0, r1, r2, r3, r4, r5, r6⟩
theorem encWLea_size (x : WLea) : 56 ≤ (encWLea x).length := by
  unfold encWLea
  simp only [List.length_append, be8_length, List.length_cons, List.length_nil]
  omega
theorem wLea_list_reads {xs : List WLea} (h : Short xs.length ∧ ∀ y ∈ xs, goodWLea y) : Reads (listP 56 wLeaP) xs (be8 xs.length ++ xs.flatMap encWLea) := list_reads (by decide) h.1 (fun x hx => wLea_reads (h.2 x hx)) (fun x _ => encWLea_size x)
theorem wLea_list_wrote : Wrote1 (listP 56 wLeaP) (fun xs => be8 xs.length ++ xs.flatMap encWLea) (fun xs => Short xs.length ∧ ∀ y ∈ xs, goodWLea y) := list_wrote 56 wLea_wrote
structure WSes where
  client : Int
  number : Int
  answer : WAns
  deriving DecidableEq
def encWSes (x : WSes) : List UInt8 := be8 x.client ++ (be8 x.number ++ (encWAns x.answer))
def goodWSes (x : WSes) : Prop := InI x.client ∧ InI x.number ∧ goodWAns x.answer
def wSesP (l : List UInt8) (p : Nat) : Got WSes := bindP (numP l p) fun v0 p => bindP (numP l p) fun v1 p => bindP (wAnsP l p) fun v2 p => .ok (⟨v0, v1, v2⟩, p)
theorem wSes_reads {x : WSes} (h : goodWSes x) : Reads wSesP x (encWSes x) := by
  obtain ⟨v0, v1, v2⟩ := x
  obtain ⟨h0, h1, h2⟩ := h
  exact bind_reads (num_reads h0) (bind_reads (num_reads h1) (map_reads (g := fun z => (⟨v0, v1, z⟩ : WSes)) (wAns_reads h2)))
theorem wSes_wrote : Wrote1 wSesP encWSes goodWSes := by
  refine bind_w (E := fun _ x => be8 x.number ++ (encWAns x.answer)) (G := fun v0 x => x.client = v0 ∧ InI x.number ∧ goodWAns x.answer) num_wrote (fun v0 g0 => ?_) (fun v0 x g0 gx => ?_)
  · skip
    refine bind_w (E := fun _ x => encWAns x.answer) (G := fun v1 x => x.client = v0 ∧ x.number = v1 ∧ goodWAns x.answer) num_wrote (fun v1 g1 => ?_) (fun v1 x g1 gx => ?_)
    · skip
      refine map_w wAns_wrote fun v2 g2 => ⟨rfl, ?_⟩
      exact ⟨rfl, rfl, g2⟩
    · obtain ⟨e0, e1, r2⟩ := gx
      subst e1
      exact ⟨rfl, e0, g1, r2⟩
  · obtain ⟨e0, r1, r2⟩ := gx
    subst e0
    exact ⟨rfl, g0, r1, r2⟩
theorem encWSes_size (x : WSes) : 56 ≤ (encWSes x).length := by
  unfold encWSes
  simp only [List.length_append, be8_length, List.length_cons, List.length_nil, encWAns]
  omega
theorem wSes_list_reads {xs : List WSes} (h : Short xs.length ∧ ∀ y ∈ xs, goodWSes y) : Reads (listP 56 wSesP) xs (be8 xs.length ++ xs.flatMap encWSes) := list_reads (by decide) h.1 (fun x hx => wSes_reads (h.2 x hx)) (fun x _ => encWSes_size x)
theorem wSes_list_wrote : Wrote1 (listP 56 wSesP) (fun xs => be8 xs.length ++ xs.flatMap encWSes) (fun xs => Short xs.length ∧ ∀ y ∈ xs, goodWSes y) := list_wrote 56 wSes_wrote
structure WDsk where
  shaper : Int
  epoch : Int
  number : Int
  answer : WAns
  deriving DecidableEq
def encWDsk (x : WDsk) : List UInt8 := be8 x.shaper ++ (be8 x.epoch ++ (be8 x.number ++ (encWAns x.answer)))
def goodWDsk (x : WDsk) : Prop := InI x.shaper ∧ InI x.epoch ∧ InI x.number ∧ goodWAns x.answer
def wDskP (l : List UInt8) (p : Nat) : Got WDsk := bindP (numP l p) fun v0 p => bindP (numP l p) fun v1 p => bindP (numP l p) fun v2 p => bindP (wAnsP l p) fun v3 p => .ok (⟨v0, v1, v2, v3⟩, p)
theorem wDsk_reads {x : WDsk} (h : goodWDsk x) : Reads wDskP x (encWDsk x) := by
  obtain ⟨v0, v1, v2, v3⟩ := x
  obtain ⟨h0, h1, h2, h3⟩ := h
  exact bind_reads (num_reads h0) (bind_reads (num_reads h1) (bind_reads (num_reads h2) (map_reads (g := fun z => (⟨v0, v1, v2, z⟩ : WDsk)) (wAns_reads h3))))
theorem wDsk_wrote : Wrote1 wDskP encWDsk goodWDsk := by
  refine bind_w (E := fun _ x => be8 x.epoch ++ (be8 x.number ++ (encWAns x.answer))) (G := fun v0 x => x.shaper = v0 ∧ InI x.epoch ∧ InI x.number ∧ goodWAns x.answer) num_wrote (fun v0 g0 => ?_) (fun v0 x g0 gx => ?_)
  · skip
    refine bind_w (E := fun _ x => be8 x.number ++ (encWAns x.answer)) (G := fun v1 x => x.shaper = v0 ∧ x.epoch = v1 ∧ InI x.number ∧ goodWAns x.answer) num_wrote (fun v1 g1 => ?_) (fun v1 x g1 gx => ?_)
    · skip
      refine bind_w (E := fun _ x => encWAns x.answer) (G := fun v2 x => x.shaper = v0 ∧ x.epoch = v1 ∧ x.number = v2 ∧ goodWAns x.answer) num_wrote (fun v2 g2 => ?_) (fun v2 x g2 gx => ?_)
      · skip
        refine map_w wAns_wrote fun v3 g3 => ⟨rfl, ?_⟩
        exact ⟨rfl, rfl, rfl, g3⟩
      · obtain ⟨e0, e1, e2, r3⟩ := gx
        subst e2
        exact ⟨rfl, e0, e1, g2, r3⟩
    · obtain ⟨e0, e1, r2, r3⟩ := gx
      subst e1
      exact ⟨rfl, e0, g1, r2, r3⟩
  · obtain ⟨e0, r1, r2, r3⟩ := gx
    subst e0
    exact ⟨rfl, g0, r1, r2, r3⟩
theorem encWDsk_size (x : WDsk) : 64 ≤ (encWDsk x).length := by
  unfold encWDsk
  simp only [List.length_append, be8_length, List.length_cons, List.length_nil, encWAns]
  omega
theorem wDsk_list_reads {xs : List WDsk} (h : Short xs.length ∧ ∀ y ∈ xs, goodWDsk y) : Reads (listP 64 wDskP) xs (be8 xs.length ++ xs.flatMap encWDsk) := list_reads (by decide) h.1 (fun x hx => wDsk_reads (h.2 x hx)) (fun x _ => encWDsk_size x)
theorem wDsk_list_wrote : Wrote1 (listP 64 wDskP) (fun xs => be8 xs.length ++ xs.flatMap encWDsk) (fun xs => Short xs.length ∧ ∀ y ∈ xs, goodWDsk y) := list_wrote 64 wDsk_wrote
structure WSt where
  term : Int
  stamp : Int
  next : Int
  tens : List WTen
  leas : List WLea
  sess : List WSes
  dsks : List WDsk
  deriving DecidableEq
def encWSt (x : WSt) : List UInt8 := be8 x.term ++ (be8 x.stamp ++ (be8 x.next ++ ((be8 x.tens.length ++ x.tens.flatMap encWTen) ++ ((be8 x.leas.length ++ x.leas.flatMap encWLea) ++ ((be8 x.sess.length ++ x.sess.flatMap encWSes) ++ ((be8 x.dsks.length ++ x.dsks.flatMap encWDsk)))))))
def goodWSt (x : WSt) : Prop := InI x.term ∧ InI x.stamp ∧ InI x.next ∧ (Short x.tens.length ∧ ∀ y ∈ x.tens, goodWTen y) ∧ (Short x.leas.length ∧ ∀ y ∈ x.leas, goodWLea y) ∧ (Short x.sess.length ∧ ∀ y ∈ x.sess, goodWSes y) ∧ (Short x.dsks.length ∧ ∀ y ∈ x.dsks, goodWDsk y)
def wStP (l : List UInt8) (p : Nat) : Got WSt := bindP (numP l p) fun v0 p => bindP (numP l p) fun v1 p => bindP (numP l p) fun v2 p => bindP (listP 33 wTenP l p) fun v3 p => bindP (listP 56 wLeaP l p) fun v4 p => bindP (listP 56 wSesP l p) fun v5 p => bindP (listP 64 wDskP l p) fun v6 p => .ok (⟨v0, v1, v2, v3, v4, v5, v6⟩, p)
theorem wSt_reads {x : WSt} (h : goodWSt x) : Reads wStP x (encWSt x) := by
  obtain ⟨v0, v1, v2, v3, v4, v5, v6⟩ := x
  obtain ⟨h0, h1, h2, h3, h4, h5, h6⟩ := h
  exact bind_reads (num_reads h0) (bind_reads (num_reads h1) (bind_reads (num_reads h2) (bind_reads (wTen_list_reads h3) (bind_reads (wLea_list_reads h4) (bind_reads (wSes_list_reads h5) (map_reads (g := fun z => (⟨v0, v1, v2, v3, v4, v5, z⟩ : WSt)) (wDsk_list_reads h6)))))))
theorem wSt_wrote : Wrote1 wStP encWSt goodWSt := by
  refine bind_w (E := fun _ x => be8 x.stamp ++ (be8 x.next ++ ((be8 x.tens.length ++ x.tens.flatMap encWTen) ++ ((be8 x.leas.length ++ x.leas.flatMap encWLea) ++ ((be8 x.sess.length ++ x.sess.flatMap encWSes) ++ ((be8 x.dsks.length ++ x.dsks.flatMap encWDsk))))))) (G := fun v0 x => x.term = v0 ∧ InI x.stamp ∧ InI x.next ∧ (Short x.tens.length ∧ ∀ y ∈ x.tens, goodWTen y) ∧ (Short x.leas.length ∧ ∀ y ∈ x.leas, goodWLea y) ∧ (Short x.sess.length ∧ ∀ y ∈ x.sess, goodWSes y) ∧ (Short x.dsks.length ∧ ∀ y ∈ x.dsks, goodWDsk y)) num_wrote (fun v0 g0 => ?_) (fun v0 x g0 gx => ?_)
  · skip
    refine bind_w (E := fun _ x => be8 x.next ++ ((be8 x.tens.length ++ x.tens.flatMap encWTen) ++ ((be8 x.leas.length ++ x.leas.flatMap encWLea) ++ ((be8 x.sess.length ++ x.sess.flatMap encWSes) ++ ((be8 x.dsks.length ++ x.dsks.flatMap encWDsk)))))) (G := fun v1 x => x.term = v0 ∧ x.stamp = v1 ∧ InI x.next ∧ (Short x.tens.length ∧ ∀ y ∈ x.tens, goodWTen y) ∧ (Short x.leas.length ∧ ∀ y ∈ x.leas, goodWLea y) ∧ (Short x.sess.length ∧ ∀ y ∈ x.sess, goodWSes y) ∧ (Short x.dsks.length ∧ ∀ y ∈ x.dsks, goodWDsk y)) num_wrote (fun v1 g1 => ?_) (fun v1 x g1 gx => ?_)
    · skip
      refine bind_w (E := fun _ x => (be8 x.tens.length ++ x.tens.flatMap encWTen) ++ ((be8 x.leas.length ++ x.leas.flatMap encWLea) ++ ((be8 x.sess.length ++ x.sess.flatMap encWSes) ++ ((be8 x.dsks.length ++ x.dsks.flatMap encWDsk))))) (G := fun v2 x => x.term = v0 ∧ x.stamp = v1 ∧ x.next = v2 ∧ (Short x.tens.length ∧ ∀ y ∈ x.tens, goodWTen y) ∧ (Short x.leas.length ∧ ∀ y ∈ x.leas, goodWLea y) ∧ (Short x.sess.length ∧ ∀ y ∈ x.sess, goodWSes y) ∧ (Short x.dsks.length ∧ ∀ y ∈ x.dsks, goodWDsk y)) num_wrote (fun v2 g2 => ?_) (fun v2 x g2 gx => ?_)
      · skip
        refine bind_w (E := fun _ x => (be8 x.leas.length ++ x.leas.flatMap encWLea) ++ ((be8 x.sess.length ++ x.sess.flatMap encWSes) ++ ((be8 x.dsks.length ++ x.dsks.flatMap encWDsk)))) (G := fun v3 x => x.term = v0 ∧ x.stamp = v1 ∧ x.next = v2 ∧ x.tens = v3 ∧ (Short x.leas.length ∧ ∀ y ∈ x.leas, goodWLea y) ∧ (Short x.sess.length ∧ ∀ y ∈ x.sess, goodWSes y) ∧ (Short x.dsks.length ∧ ∀ y ∈ x.dsks, goodWDsk y)) wTen_list_wrote (fun v3 g3 => ?_) (fun v3 x g3 gx => ?_)
        · skip
          refine bind_w (E := fun _ x => (be8 x.sess.length ++ x.sess.flatMap encWSes) ++ ((be8 x.dsks.length ++ x.dsks.flatMap encWDsk))) (G := fun v4 x => x.term = v0 ∧ x.stamp = v1 ∧ x.next = v2 ∧ x.tens = v3 ∧ x.leas = v4 ∧ (Short x.sess.length ∧ ∀ y ∈ x.sess, goodWSes y) ∧ (Short x.dsks.length ∧ ∀ y ∈ x.dsks, goodWDsk y)) wLea_list_wrote (fun v4 g4 => ?_) (fun v4 x g4 gx => ?_)
          · skip
            refine bind_w (E := fun _ x => (be8 x.dsks.length ++ x.dsks.flatMap encWDsk)) (G := fun v5 x => x.term = v0 ∧ x.stamp = v1 ∧ x.next = v2 ∧ x.tens = v3 ∧ x.leas = v4 ∧ x.sess = v5 ∧ (Short x.dsks.length ∧ ∀ y ∈ x.dsks, goodWDsk y)) wSes_list_wrote (fun v5 g5 => ?_) (fun v5 x g5 gx => ?_)
            · skip
              refine map_w wDsk_list_wrote fun v6 g6 => ⟨rfl, ?_⟩
              exact ⟨rfl, rfl, rfl, rfl, rfl, rfl, g6⟩
            · obtain ⟨e0, e1, e2, e3, e4, e5, r6⟩ := gx
              subst e5
              exact ⟨rfl, e0, e1, e2, e3, e4, g5, r6⟩
          · obtain ⟨e0, e1, e2, e3, e4, r5, r6⟩ := gx
            subst e4
            exact ⟨rfl, e0, e1, e2, e3, g4, r5, r6⟩
        · obtain ⟨e0, e1, e2, e3, r4, r5, r6⟩ := gx
          subst e3
          exact ⟨rfl, e0, e1, e2, g3, r4, r5, r6⟩
      · obtain ⟨e0, e1, e2, r3, r4, r5, r6⟩ := gx
        subst e2
        exact ⟨rfl, e0, e1, g2, r3, r4, r5, r6⟩
    · obtain ⟨e0, e1, r2, r3, r4, r5, r6⟩ := gx
      subst e1
      exact ⟨rfl, e0, g1, r2, r3, r4, r5, r6⟩
  · obtain ⟨e0, r1, r2, r3, r4, r5, r6⟩ := gx
    subst e0
    exact ⟨rfl, g0, r1, r2, r3, r4, r5, r6⟩
/-! Read as written, written as read: whole. -/
theorem read_written {α : Type} {one : List UInt8 → Nat → Got α} {zero x : α} {b : List UInt8} (h : Reads one x b) (hb : b.length ≤ 1048576) : readP zero one b = (x, 0, 0) := by
  have h1 := h [] []
  simp only [List.nil_append, List.append_nil, List.length_nil, Nat.zero_add] at h1
  unfold readP
  rw [if_neg (by omega), h1]
  simp
theorem written_read {α : Type} {one : List UInt8 → Nat → Got α} {enc : α → List UInt8} {good : α → Prop} {zero x : α} {l : List UInt8} {f : Nat} (h : Wrote1 one enc good) (hr : readP zero one l = (x, f, 0)) : enc x = l ∧ good x := by
  unfold readP at hr
  split at hr
  · simp at hr
  · split at hr
    · simp at hr
    · rename_i y q he
      split at hr
      · simp at hr
      · rename_i hq
        simp only [Prod.mk.injEq] at hr
        obtain ⟨rfl, -⟩ := hr
        obtain ⟨h1, h2, h3, h4⟩ := h l 0 y q (Nat.zero_le _) he
        have : q = l.length := by omega
        subst this
        refine ⟨?_, h4⟩
        rw [← h3]; simp
end Go.Proofs.Ytmihgdjnjfjjcaa
