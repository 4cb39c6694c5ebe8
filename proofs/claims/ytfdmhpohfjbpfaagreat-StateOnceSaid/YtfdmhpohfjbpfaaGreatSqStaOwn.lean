import Derived.Test.YtfdmhpohfjbpfaaGreatSqLedCredit
set_option linter.unusedVariables false
set_option linter.unusedSimpArgs false
namespace Go.Proofs.YtfdmhpohfjbpfaaGreat
open Go.ChangeShapes Go.WideShapes Go.ChangeAt Go.RowKit
set_option maxRecDepth 100000
theorem own_fin {w W1 w2 w3 w4 w5 w6 w8:World} {term stamp next:Int} {ts:List Tenant} {ls:List Lease} {ss:List Session} {ds:List Desk} {x1 x2 x3 x4:Option Addr} {y1 y2 y3 y4:Nat}
 (K1:Near W1.heap.size none x1∧Can w2 W1.heap.size 75 layTen.size x1 ts.length y1 (ts.flatMap layTen.cells)∧(0<ts.length→ w2.ownsRow W1.heap.size 75 layTen.size (.slice x1 ts.length y1) ts.length (ts.flatMap layTen.cells))∧∀b o s,x1=some ⟨b,o,s⟩→b< w2.heap.size)
 (K2:Near w2.heap.size none x2∧Can w3 w2.heap.size 59 layLea.size x2 ls.length y2 (ls.flatMap layLea.cells)∧(0<ls.length→ w3.ownsRow w2.heap.size 59 layLea.size (.slice x2 ls.length y2) ls.length (ls.flatMap layLea.cells))∧∀b o s,x2=some ⟨b,o,s⟩→b< w3.heap.size)
 (K3:Near w3.heap.size none x3∧Can w4 w3.heap.size 92 laySes.size x3 ss.length y3 (ss.flatMap laySes.cells)∧(0<ss.length→ w4.ownsRow w3.heap.size 92 laySes.size (.slice x3 ss.length y3) ss.length (ss.flatMap laySes.cells))∧∀b o s,x3=some ⟨b,o,s⟩→b< w4.heap.size)
 (K4:Near w4.heap.size none x4∧Can w5 w4.heap.size 66 layDsk.size x4 ds.length y4 (ds.flatMap layDsk.cells)∧(0<ds.length→ w5.ownsRow w4.heap.size 66 layDsk.size (.slice x4 ds.length y4) ds.length (ds.flatMap layDsk.cells))∧∀b o s,x4=some ⟨b,o,s⟩→b< w5.heap.size)
 (hW:w.heap.size+ 2≤W1.heap.size) (b12:Below W1.heap.size W1 w2) (b23:Below w2.heap.size w2 w3) (b34:Below w3.heap.size w3 w4) (b45:Below w4.heap.size w4 w5) (M6:Mid (w.heap.size+1) w5.heap.size w5 w6)
 (hk8:∀k,k≠w.heap.size+ 1→w8.heap[k]? =w6.heap[k]?) (hs8:w8.heap.size= w6.heap.size) (hb:Below w.heap.size w w8):
 RetSt w w.heap.size ⟨term,stamp,next,ts,ls,ss,ds⟩ (.returned (.agg #[.int .i64 term,.int .i64 stamp,.int .i64 next,.slice x1 ts.length y1,.slice x2 ls.length y2,.slice x3 ss.length y3,.slice x4 ds.length y4])) w8:=by
 have s12:=b12.size
 have s23:=b23.size
 have s34:=b34.size
 have s45:=b45.size
 have s56:=M6.size
 have m68:∀E,Mid (w.heap.size+2) E w6 w8:=fun E=>(Mid.refl _ _ _).other hk8 hs8 (.inl (by omega))
 have m58:∀E,E≤w5.heap.size→ Mid (w.heap.size+2) E w5 w8:=fun E hE=>(⟨M6.size,fun k h1 h2=>M6.keep k (by omega) (by omega)⟩:Mid (w.heap.size+2) E w5 w6).trans (m68 E)
 have m48:∀E,E≤w4.heap.size→ Mid (w.heap.size+2) E w4 w8:=fun E hE=>(Mid.below b45 hE).trans (m58 E (by omega))
 have m38:∀E,E≤w3.heap.size→ Mid (w.heap.size+2) E w3 w8:=fun E hE=>(Mid.below b34 hE).trans (m48 E (by omega))
 have m28:∀E,E≤w2.heap.size→ Mid (w.heap.size+2) E w2 w8:=fun E hE=>(Mid.below b23 hE).trans (m38 E (by omega))
 have S1:=(SliAt.of_clone (L:=layTen) (by decide) K1.1 K1.2.1).mid (m28 _ (Nat.le_refl _)) hW (Nat.le_refl _)
 have S2:=(SliAt.of_clone (L:=layLea) (by decide) K2.1 K2.2.1).mid (m38 _ (Nat.le_refl _)) (by omega) (Nat.le_refl _)
 have S3:=(SliAt.of_clone (L:=laySes) (by decide) K3.1 K3.2.1).mid (m48 _ (Nat.le_refl _)) (by omega) (Nat.le_refl _)
 have S4:=(SliAt.of_clone (L:=layDsk) (by decide) K4.1 K4.2.1).mid (m58 _ (Nat.le_refl _)) (by omega) (Nat.le_refl _)
 have O4:=((⟨K4.2.1,K4.2.2.1⟩:OwnSli layDsk w5 w4.heap.size ⟨x4,ds.length,y4⟩ ds).mid K4.1 (m58 _ (Nat.le_refl _)) (by omega) (Nat.le_refl _)).base (B0:=w.heap.size) (by omega)
 exact⟨⟨term,stamp,next,⟨x1,ts.length,y1⟩,⟨x2,ls.length,y2⟩,⟨x3,ss.length,y3⟩,⟨x4,ds.length,y4⟩⟩,rfl,⟨rfl,rfl,rfl,S1.mono (by omega),S2.mono (by omega),S3.mono (by omega),⟨S4.mono (by omega),fun _=>O4,fun _ x o q e=>by have h1:=K4.2.2.2 x o q e;have h2:=(m58 0 (by omega)).size;omega⟩⟩,hb⟩
set_option maxHeartbeats 8000000 in
theorem own_any (s:St) (r:Raw) (B:Nat) (w:World) (h:StAt w B r s) (hl1:s.tens.length≤ 900) (hl2:s.leas.length≤ 900) (hl3:s.sess.length≤ 900) (hl4:s.dsks.length≤ 900):
 Calls Tryz.prog 22 #[r.agg] w (RetSt w w.heap.size s):=by
 obtain⟨term,stamp,next,⟨a1,n1,c1⟩,⟨a2,n2,c2⟩,⟨a3,n3,c3⟩,⟨a4,n4,c4⟩⟩:=r
 obtain⟨term',stamp',nx,ts,ls,ss,ds⟩:=s
 have hq1:=h.term
 have hq2:=h.stamp
 have hq3:=h.next
 have H1:=Lib.hid h.ten
 have H2:=Lib.hid h.lea
 have H3:=Lib.hid h.ses
 have H4:=Lib.hid h.dsk
 simp only at hq1 hq2 hq3 hl1 hl2 hl3 hl4
 subst hq1
 subst hq2
 subst hq3
 clear h
 have hb1:=Lib.hid (show n1*layTen.bytes≤ 140737488355328 by have:=H1.out.len;show n1*40≤ _;simp only at this;omega)
 have hb2:=Lib.hid (show n2*layLea.bytes≤ 140737488355328 by have:=H2.out.len;show n2*56≤ _;simp only at this;omega)
 have hb3:=Lib.hid (show n3*laySes.bytes≤ 140737488355328 by have:=H3.out.len;show n3*56≤ _;simp only at this;omega)
 have hb4:=Lib.hid (show n4*layDsk.bytes≤ 140737488355328 by have:=H4.out.len;show n4*64≤ _;simp only at this;omega)
 have C1:=Lib.hid (fun w' (hb:Below w.heap.size w w')=>scopyTen ts a1 n1 c1 w' H1.out.len hb1.out (H1.out.row.below hb))
 have C2:=Lib.hid (fun w' (hb:Below w.heap.size w w')=>scopyLea ls a2 n2 c2 w' H2.out.len hb2.out (H2.out.row.below hb))
 have C3:=Lib.hid (fun w' (hb:Below w.heap.size w w')=>scopySes ss a3 n3 c3 w' H3.out.len hb3.out (H3.out.row.below hb))
 have C4:=Lib.hid (fun w' (hb:Below w.heap.size w w')=>scopyDsk ds a4 n4 c4 w' H4.out.len hb4.out (H4.out.row.below hb))
 clear hl1 hl2 hl3 hl4
 go_enter Tryz.func22,Tryz.ntmps22
 go_wp2
 have HX1:Hid (Bex ((w.alloc (.cells #[.int .i64 term,.int .i64 stamp,.int .i64 next,.slice a1 n1 c1,.slice a2 n2 c2,.slice a3 n3 c3,.slice a4 n4 c4] 27)).alloc (.cells #[.int .i64 0,.int .i64 0,.int .i64 0,.slice none 0 0,.slice none 0 0,.slice none 0 0,.slice none 0 0] 27)) w.heap.size (Raw.cells ⟨term,stamp,next,⟨a1,n1,c1⟩,⟨a2,n2,c2⟩,⟨a3,n3,c3⟩,⟨a4,n4,c4⟩⟩)):=(Bex.new w _ _).next ((Below.refl _ _).alloc (Nat.le_refl _) _)
 have HZ1:Hid (Bex ((w.alloc (.cells #[.int .i64 term,.int .i64 stamp,.int .i64 next,.slice a1 n1 c1,.slice a2 n2 c2,.slice a3 n3 c3,.slice a4 n4 c4] 27)).alloc (.cells #[.int .i64 0,.int .i64 0,.int .i64 0,.slice none 0 0,.slice none 0 0,.slice none 0 0,.slice none 0 0] 27)) (w.heap.size+1) (Raw.cells ⟨0,0,0,⟨none,0,0⟩,⟨none,0,0⟩,⟨none,0,0⟩,⟨none,0,0⟩⟩)):=by
  have:=Bex.new (w.alloc (.cells #[.int .i64 term,.int .i64 stamp,.int .i64 next,.slice a1 n1 c1,.slice a2 n2 c2,.slice a3 n3 c3,.slice a4 n4 c4] 27)) (Raw.cells ⟨0,0,0,⟨none,0,0⟩,⟨none,0,0⟩,⟨none,0,0⟩,⟨none,0,0⟩⟩) 27
  rw[World.size_alloc]at this;exact this
 have HB1:Hid (Below w.heap.size w ((w.alloc (.cells #[.int .i64 term,.int .i64 stamp,.int .i64 next,.slice a1 n1 c1,.slice a2 n2 c2,.slice a3 n3 c3,.slice a4 n4 c4] 27)).alloc (.cells #[.int .i64 0,.int .i64 0,.int .i64 0,.slice none 0 0,.slice none 0 0,.slice none 0 0,.slice none 0 0] 27))):=mid_alloc' (mid_alloc' (Below.refl _ _))
 obtain⟨W1,hW1⟩:∃W1,W1=((w.alloc (.cells #[.int .i64 term,.int .i64 stamp,.int .i64 next,.slice a1 n1 c1,.slice a2 n2 c2,.slice a3 n3 c3,.slice a4 n4 c4] 27)).alloc (.cells #[.int .i64 0,.int .i64 0,.int .i64 0,.slice none 0 0,.slice none 0 0,.slice none 0 0,.slice none 0 0] 27)):=⟨_,rfl⟩
 rw[←hW1]at HX1 HZ1 HB1 ⊢
 have HS1:Hid (w.heap.size+2≤ W1.heap.size):=by show _≤_;rw[hW1];simp
 clear hW1
 refine wrq (fun l w'=>(True)∧Till 13 l (w'.cell? ⟨w.heap.size,3,none⟩=some (.slice a1 n1 c1))∧Till 15 l (w'.cell? ⟨w.heap.size,4,none⟩=some (.slice a2 n2 c2))∧Till 17 l (w'.cell? ⟨w.heap.size,5,none⟩=some (.slice a3 n3 c3))∧Till 19 l (w'.cell? ⟨w.heap.size,6,none⟩=some (.slice a4 n4 c4))) ?_
 refine toS ⟨trivial,fun _=>HX1.out.drew.box.cell (j:=3) rfl,fun _=>HX1.out.drew.box.cell (j:=4) rfl,fun _=>HX1.out.drew.box.cell (j:=5) rfl,fun _=>HX1.out.drew.box.cell (j:=6) rfl⟩ ?_
 refine ttq [] 0 ?_
 refine ttq [13,15,17,19] 1 ?_ (hy:=Or.inl ⟨by rfl,by(rintro w ⟨l,hD,hSw⟩;(try dsimp only at hSw);have hC0:=hSw.2.1 (hD 13 (by decide));have hC1:=hSw.2.2.1 (hD 15 (by decide));have hC2:=hSw.2.2.2.1 (hD 17 (by decide));have hC3:=hSw.2.2.2.2 (hD 19 (by decide));replace hSw:=hSw.1;clear hD;go_simp;rfl)⟩)
 refine ttq [] 3 ?_
 refine ttq [13,15,17,19] 4 ?_ (hy:=Or.inl ⟨by rfl,by(rintro w ⟨l,hD,hSw⟩;(try dsimp only at hSw);have hC0:=hSw.2.1 (hD 13 (by decide));have hC1:=hSw.2.2.1 (hD 15 (by decide));have hC2:=hSw.2.2.2.1 (hD 17 (by decide));have hC3:=hSw.2.2.2.2 (hD 19 (by decide));replace hSw:=hSw.1;clear hD;go_simp;rfl)⟩)
 refine ttq [] 6 ?_
 refine ttq [13,15,17,19] 7 ?_ (hy:=Or.inl ⟨by rfl,by(rintro w ⟨l,hD,hSw⟩;(try dsimp only at hSw);have hC0:=hSw.2.1 (hD 13 (by decide));have hC1:=hSw.2.2.1 (hD 15 (by decide));have hC2:=hSw.2.2.2.1 (hD 17 (by decide));have hC3:=hSw.2.2.2.2 (hD 19 (by decide));replace hSw:=hSw.1;clear hD;go_simp;rfl)⟩)
 refine ttq [] 9 ?_
 refine ttq [13,15,17,19] 10 ?_ (hy:=Or.inl ⟨by rfl,by(rintro w ⟨l,hD,hSw⟩;(try dsimp only at hSw);have hC0:=hSw.2.1 (hD 13 (by decide));have hC1:=hSw.2.2.1 (hD 15 (by decide));have hC2:=hSw.2.2.2.1 (hD 17 (by decide));have hC3:=hSw.2.2.2.2 (hD 19 (by decide));replace hSw:=hSw.1;clear hD;go_simp;rfl)⟩)
 refine soq 2 (fun K hK=> ?_)
 go_simp
 go_at_call 44
 with_reducible refine(C1.out _ (HB1.out.drew)).mono ?_
 rintro e w2 ⟨x1,y1,rfl,hnear,hcan,hown,hlt,hb1z⟩
 have hbd1:=hb1z;have hbq1:Below W1.heap.size W1 w2:=⟨hb1z.os,hb1z.tape,hb1z.output,hb1z.size,hb1z.block⟩
 clear hb1z
 have K1:=Lib.hid (And.intro hnear (And.intro hcan (And.intro hown hlt)))
 clear hnear hcan hown hlt
 have HX2:=Lib.hid (HX1.out.next hbq1)
 have HZ2:=Lib.hid (HZ1.out.next hbq1)
 have HB2:=Lib.hid (HB1.out.trans (hbq1.mono HB1.out.size))
 refine hK.out _ _ ⟨trivial,fun _=>HX2.out.box.cell (j:=3) rfl,fun _=>HX2.out.box.cell (j:=4) rfl,fun _=>HX2.out.box.cell (j:=5) rfl,fun _=>HX2.out.box.cell (j:=6) rfl⟩ ?_
 clear hK K
 refine ttq [] 12 ?_
 refine soq 5 (fun K hK=> ?_)
 go_simp
 go_at_call 45
 with_reducible refine(C2.out _ (HB2.out)).mono ?_
 rintro e w3 ⟨x2,y2,rfl,hnear,hcan,hown,hlt,hb2z⟩
 have hbq2:=hb2z
 clear hb2z
 have K2:=Lib.hid (And.intro hnear (And.intro hcan (And.intro hown hlt)))
 clear hnear hcan hown hlt
 have HX3:=Lib.hid (HX2.out.next hbq2)
 have HZ3:=Lib.hid (HZ2.out.next hbq2)
 have HB3:=Lib.hid (HB2.out.trans (hbq2.mono HB2.out.size))
 refine hK.out _ _ ⟨trivial,fun _=>HX3.out.box.cell (j:=3) rfl,fun _=>HX3.out.box.cell (j:=4) rfl,fun _=>HX3.out.box.cell (j:=5) rfl,fun _=>HX3.out.box.cell (j:=6) rfl⟩ ?_
 clear hK K
 refine soq 8 (fun K hK=> ?_)
 go_simp
 go_at_call 46
 with_reducible refine(C3.out _ (HB3.out)).mono ?_
 rintro e w4 ⟨x3,y3,rfl,hnear,hcan,hown,hlt,hb3z⟩
 have hbq3:=hb3z
 clear hb3z
 have K3:=Lib.hid (And.intro hnear (And.intro hcan (And.intro hown hlt)))
 clear hnear hcan hown hlt
 have HX4:=Lib.hid (HX3.out.next hbq3)
 have HZ4:=Lib.hid (HZ3.out.next hbq3)
 have HB4:=Lib.hid (HB3.out.trans (hbq3.mono HB3.out.size))
 refine hK.out _ _ ⟨trivial,fun _=>HX4.out.box.cell (j:=3) rfl,fun _=>HX4.out.box.cell (j:=4) rfl,fun _=>HX4.out.box.cell (j:=5) rfl,fun _=>HX4.out.box.cell (j:=6) rfl⟩ ?_
 clear hK K
 refine soq 11 (fun K hK=> ?_)
 go_simp
 go_at_call 47
 with_reducible refine(C4.out _ (HB4.out)).mono ?_
 rintro e w5 ⟨x4,y4,rfl,hnear,hcan,hown,hlt,hb4z⟩
 have hbq4:=hb4z
 clear hb4z
 have K4:=Lib.hid (And.intro hnear (And.intro hcan (And.intro hown hlt)))
 clear hnear hcan hown hlt
 have HX5:=Lib.hid (HX4.out.next hbq4)
 have HZ5:=Lib.hid (HZ4.out.next hbq4)
 have HB5:=Lib.hid (HB4.out.trans (hbq4.mono HB4.out.size))
 refine hK.out _ _ ⟨trivial,fun _=>HX5.out.box.cell (j:=3) rfl,fun _=>HX5.out.box.cell (j:=4) rfl,fun _=>HX5.out.box.cell (j:=5) rfl,fun _=>HX5.out.box.cell (j:=6) rfl⟩ ?_
 clear hK K
 refine soq 13 (fun K hK=> ?_)
 have r3:=HX5.out.box.cell (j:=3) rfl
 have z3:=HX5.out.box.froz (j:=3) (show 3<7 by decide)
 simp only at r3
 go_simp
 clear r3 z3
 have HX6:Hid (Bex (w5.setCell ⟨w.heap.size,3,none⟩ (.slice x1 ts.length y1)) w.heap.size (Raw.cells ⟨term,stamp,next,⟨x1,ts.length,y1⟩,⟨a2,n2,c2⟩,⟨a3,n3,c3⟩,⟨a4,n4,c4⟩⟩)):=HX5.out.set 3 _
 have HW6:Hid (Wrote w.heap.size w5 (w5.setCell ⟨w.heap.size,3,none⟩ (.slice x1 ts.length y1))):=wrote_setCell _ _ _ _
 generalize w5.setCell ⟨w.heap.size,3,none⟩ (.slice x1 ts.length y1)=w6 at HX6 HW6 ⊢
 refine hK.out _ _ ⟨trivial,fun h=>absurd h (by decide),fun _=>HX6.out.box.cell (j:=4) rfl,fun _=>HX6.out.box.cell (j:=5) rfl,fun _=>HX6.out.box.cell (j:=6) rfl⟩ ?_
 clear hK K
 refine ttq [] 14 ?_
 refine soq 15 (fun K hK=> ?_)
 have r3:=HX6.out.box.cell (j:=4) rfl
 have z3:=HX6.out.box.froz (j:=4) (show 4<7 by decide)
 simp only at r3
 go_simp
 clear r3 z3
 have HX7:Hid (Bex (w6.setCell ⟨w.heap.size,4,none⟩ (.slice x2 ls.length y2)) w.heap.size (Raw.cells ⟨term,stamp,next,⟨x1,ts.length,y1⟩,⟨x2,ls.length,y2⟩,⟨a3,n3,c3⟩,⟨a4,n4,c4⟩⟩)):=HX6.out.set 4 _
 have HW7:Hid (Wrote w.heap.size w6 (w6.setCell ⟨w.heap.size,4,none⟩ (.slice x2 ls.length y2))):=wrote_setCell _ _ _ _
 generalize w6.setCell ⟨w.heap.size,4,none⟩ (.slice x2 ls.length y2)=w7 at HX7 HW7 ⊢
 refine hK.out _ _ ⟨trivial,fun h=>absurd h (by decide),fun h=>absurd h (by decide),fun _=>HX7.out.box.cell (j:=5) rfl,fun _=>HX7.out.box.cell (j:=6) rfl⟩ ?_
 clear hK K
 refine ttq [] 16 ?_
 refine soq 17 (fun K hK=> ?_)
 have r3:=HX7.out.box.cell (j:=5) rfl
 have z3:=HX7.out.box.froz (j:=5) (show 5<7 by decide)
 simp only at r3
 go_simp
 clear r3 z3
 have HX8:Hid (Bex (w7.setCell ⟨w.heap.size,5,none⟩ (.slice x3 ss.length y3)) w.heap.size (Raw.cells ⟨term,stamp,next,⟨x1,ts.length,y1⟩,⟨x2,ls.length,y2⟩,⟨x3,ss.length,y3⟩,⟨a4,n4,c4⟩⟩)):=HX7.out.set 5 _
 have HW8:Hid (Wrote w.heap.size w7 (w7.setCell ⟨w.heap.size,5,none⟩ (.slice x3 ss.length y3))):=wrote_setCell _ _ _ _
 generalize w7.setCell ⟨w.heap.size,5,none⟩ (.slice x3 ss.length y3)=w8 at HX8 HW8 ⊢
 refine hK.out _ _ ⟨trivial,fun h=>absurd h (by decide),fun h=>absurd h (by decide),fun h=>absurd h (by decide),fun _=>HX8.out.box.cell (j:=6) rfl⟩ ?_
 clear hK K
 refine ttq [] 18 ?_
 refine soq 19 (fun K hK=> ?_)
 have r3:=HX8.out.box.cell (j:=6) rfl
 have z3:=HX8.out.box.froz (j:=6) (show 6<7 by decide)
 simp only at r3
 go_simp
 clear r3 z3
 have HX9:Hid (Bex (w8.setCell ⟨w.heap.size,6,none⟩ (.slice x4 ds.length y4)) w.heap.size (Raw.cells ⟨term,stamp,next,⟨x1,ts.length,y1⟩,⟨x2,ls.length,y2⟩,⟨x3,ss.length,y3⟩,⟨x4,ds.length,y4⟩⟩)):=HX8.out.set 6 _
 have HW9:Hid (Wrote w.heap.size w8 (w8.setCell ⟨w.heap.size,6,none⟩ (.slice x4 ds.length y4))):=wrote_setCell _ _ _ _
 generalize w8.setCell ⟨w.heap.size,6,none⟩ (.slice x4 ds.length y4)=w9 at HX9 HW9 ⊢
 refine hK.out _ _ ⟨trivial,fun h=>absurd h (by decide),fun h=>absurd h (by decide),fun h=>absurd h (by decide),fun h=>absurd h (by decide)⟩ ?_
 clear hK K
 refine sdq ?_
 have hZ:=((((HZ5.out.wrote HW6.out (by omega)).wrote HW7.out (by omega)).wrote HW8.out (by omega)).wrote HW9.out (by omega))
 have HZ9:=Lib.hid hZ
 have HM9:=Lib.hid ((((((Mid.refl (w.heap.size+1) w5.heap.size w5).wrote HW6.out (.inl (by omega))).wrote HW7.out (.inl (by omega))).wrote HW8.out (.inl (by omega))).wrote HW9.out (.inl (by omega))))
 have HB9:=Lib.hid ((((HB5.out.trans (HW6.out.below _ (Nat.le_refl _))).trans (HW7.out.below _ (Nat.le_refl _))).trans (HW8.out.below _ (Nat.le_refl _))).trans (HW9.out.below _ (Nat.le_refl _)))
 clear hZ HX1 HX2 HX3 HX4 HX5 HX6 HX7 HX8 HW6 HW7 HW8 HW9 HZ1 HZ2 HZ3 HZ4 HZ5
 go_wp2_with(first|(refine wpList_load_as laySt rfl (.tmp 1) rfl w.heap.size 0 rfl ⟨term,stamp,next,⟨x1,ts.length,y1⟩,⟨x2,ls.length,y2⟩,⟨x3,ss.length,y3⟩,⟨x4,ds.length,y4⟩⟩ (.agg #[.int .i64 term,.int .i64 stamp,.int .i64 next,.slice x1 ts.length y1,.slice x2 ls.length y2,.slice x3 ss.length y3,.slice x4 ds.length y4]) rfl HX9.out.box.range ?_)|(refine wpList_store_bex laySt rfl (.tmp 2) (.tmp 19) rfl (w.heap.size+1) ⟨term,stamp,next,⟨x1,ts.length,y1⟩,⟨x2,ls.length,y2⟩,⟨x3,ss.length,y3⟩,⟨x4,ds.length,y4⟩⟩ _ rfl rfl HZ9.out rfl ?_;intro w10 hx10 hw10;have HX10:=Lib.hid hx10;have HW10:=Lib.hid hw10;clear hx10 hw10))
 obtain⟨c0,c1,c2,c3,c4,c5,c6⟩:=cellsSt0 HX10.out.box.range
 refine bodyPost_ret (v:= .agg #[.int .i64 term,.int .i64 stamp,.int .i64 next,.slice x1 ts.length y1,.slice x2 ls.length y2,.slice x3 ss.length y3,.slice x4 ds.length y4]) (by simp[results,Tryz.results22,go_sem,c0,c1,c2,c3,c4,c5,c6]) rfl ?_
 exact own_fin K1.out K2.out K3.out K4.out HS1.out hbd1 hbq2 hbq3 hbq4 HM9.out HW10.out.keep HW10.out.size (HB9.out.trans (HW10.out.below _ (by omega)))
end Go.Proofs.YtfdmhpohfjbpfaaGreat
