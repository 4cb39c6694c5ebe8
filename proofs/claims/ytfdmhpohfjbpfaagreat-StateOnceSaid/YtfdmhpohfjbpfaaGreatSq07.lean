import Derived.Deep.RegionLaw
import Derived.Test.YtfdmhpohfjbpfaaGreatSqLedCheck2
set_option linter.unusedVariables false
set_option linter.unusedSimpArgs false
namespace Go.Proofs.YtfdmhpohfjbpfaaGreat
open Go.ChangeShapes Go.WideShapes Go.ChangeAt Go.RowKit
set_option maxRecDepth 100000
theorem cut_here {T G:Prop} (k:Hid T→G) (h:T):G:= k h
theorem copy_fin {w W1 w2 w3 w4 w5 w6 w7 w8:World} {term stamp next:Int} {ts:List Tenant} {ls:List Lease} {ss:List Session} {ds:List Desk} {x1 x2 x3 x4:Option Addr} {y1 y2 y3 y4:Nat}
 (K1:Near W1.heap.size none x1∧Can w2 W1.heap.size 75 layTen.size x1 ts.length y1 (ts.flatMap layTen.cells)∧(0<ts.length→ w2.ownsRow W1.heap.size 75 layTen.size (.slice x1 ts.length y1) ts.length (ts.flatMap layTen.cells))∧∀b o s,x1=some ⟨b,o,s⟩→b< w2.heap.size)
 (K2:Near w2.heap.size none x2∧Can w3 w2.heap.size 59 layLea.size x2 ls.length y2 (ls.flatMap layLea.cells)∧(0<ls.length→ w3.ownsRow w2.heap.size 59 layLea.size (.slice x2 ls.length y2) ls.length (ls.flatMap layLea.cells))∧∀b o s,x2=some ⟨b,o,s⟩→b< w3.heap.size)
 (K3:Near w4.drew.heap.size none x3∧Can w5 w4.drew.heap.size 92 laySes.size x3 ss.length y3 (ss.flatMap laySes.cells)∧(0<ss.length→ w5.ownsRow w4.drew.heap.size 92 laySes.size (.slice x3 ss.length y3) ss.length (ss.flatMap laySes.cells))∧∀b o s,x3=some ⟨b,o,s⟩→b< w5.heap.size)
 (K4:Near w5.heap.size none x4∧Can w6 w5.heap.size 66 layDsk.size x4 ds.length y4 (ds.flatMap layDsk.cells)∧(0<ds.length→ w6.ownsRow w5.heap.size 66 layDsk.size (.slice x4 ds.length y4) ds.length (ds.flatMap layDsk.cells))∧∀b o s,x4=some ⟨b,o,s⟩→b< w6.heap.size)
 (hW:w.heap.size+ 2≤W1.heap.size)
 (b12:Below W1.heap.size W1 w2) (b23:Below w2.heap.size w2 w3) (M4:Mid (w.heap.size+1) w3.heap.size w3 w4) (b45:Below w4.drew.heap.size w4.drew w5) (b56:Below w5.heap.size w5 w6) (M7:Mid (w.heap.size+1) w6.heap.size w6 w7)
 (hk8:∀k,k≠w.heap.size+ 1→w8.heap[k]? =w7.heap[k]?) (hs8:w8.heap.size= w7.heap.size) (hb:Below w.heap.size w w8):
 RetCopy w ⟨term,stamp,next,ts,ls,ss,ds⟩ (.returned (.agg #[.int .i64 term,.int .i64 stamp,.int .i64 next,.slice x1 ts.length y1,.slice x2 ls.length y2,.slice x3 ss.length y3,.slice x4 ds.length y4])) w8:=by
 have s12:=b12.size
 have s23:=b23.size
 have s34:=M4.size
 have s45:w4.heap.size≤ w5.heap.size:=b45.size
 have s56:=b56.size
 have s67:=M7.size
 have d4:w4.drew.heap.size= w4.heap.size:=rfl
 have m78:∀E,Mid (w.heap.size+2) E w7 w8:=fun E=>(Mid.refl _ _ _).other hk8 hs8 (.inl (by omega))
 have m68:∀E,E≤w6.heap.size→ Mid (w.heap.size+2) E w6 w8:=fun E hE=>(⟨M7.size,fun k h1 h2=>M7.keep k (by omega) (by omega)⟩:Mid (w.heap.size+2) E w6 w7).trans (m78 E)
 have m58:∀E,E≤w5.heap.size→ Mid (w.heap.size+2) E w5 w8:=fun E hE=>(Mid.below b56 hE).trans (m68 E (by omega))
 have m48:∀E,E≤w4.heap.size→ Mid (w.heap.size+2) E w4 w8:=fun E hE=>(⟨b45.size,fun k _ h2=>b45.block k (by omega)⟩:Mid (w.heap.size+2) E w4 w5).trans (m58 E (by omega))
 have m38:∀E,E≤w3.heap.size→ Mid (w.heap.size+2) E w3 w8:=fun E hE=>(⟨M4.size,fun k h1 h2=>M4.keep k (by omega) (by omega)⟩:Mid (w.heap.size+2) E w3 w4).trans (m48 E (by omega))
 have m28:∀E,E≤w2.heap.size→ Mid (w.heap.size+2) E w2 w8:=fun E hE=>(Mid.below b23 hE).trans (m38 E (by omega))
 have S1:=(SliAt.of_clone (L:=layTen) (by decide) K1.1 K1.2.1).mid (m28 _ (Nat.le_refl _)) hW (Nat.le_refl _)
 have S2:=(SliAt.of_clone (L:=layLea) (by decide) K2.1 K2.2.1).mid (m38 _ (Nat.le_refl _)) (by omega) (Nat.le_refl _)
 have S3:=(SliAt.of_clone (L:=laySes) (by decide) K3.1 K3.2.1).mid (m58 _ (Nat.le_refl _)) (by omega) (Nat.le_refl _)
 have S4:=(SliAt.of_clone (L:=layDsk) (by decide) K4.1 K4.2.1).mid (m68 _ (Nat.le_refl _)) (by omega) (Nat.le_refl _)
 have O1:=((⟨K1.2.1,K1.2.2.1⟩:OwnSli layTen w2 W1.heap.size ⟨x1,ts.length,y1⟩ ts).mid K1.1 (m28 _ (Nat.le_refl _)) hW (Nat.le_refl _)).base (B0:=w.heap.size) (by omega)
 have O2:=((⟨K2.2.1,K2.2.2.1⟩:OwnSli layLea w3 w2.heap.size ⟨x2,ls.length,y2⟩ ls).mid K2.1 (m38 _ (Nat.le_refl _)) (by omega) (Nat.le_refl _)).base (B0:=w.heap.size) (by omega)
 have O4:=((⟨K4.2.1,K4.2.2.1⟩:OwnSli layDsk w6 w5.heap.size ⟨x4,ds.length,y4⟩ ds).mid K4.1 (m68 _ (Nat.le_refl _)) (by omega) (Nat.le_refl _)).base (B0:=w.heap.size) (by omega)
 refine⟨⟨term,stamp,next,⟨x1,ts.length,y1⟩,⟨x2,ls.length,y2⟩,⟨x3,ss.length,y3⟩,⟨x4,ds.length,y4⟩⟩,rfl,⟨⟨rfl,rfl,rfl,S1.mono (by omega),S2.mono (by omega),S3.mono (by omega),⟨S4.mono (by omega),fun _=>O4,fun _ x o q e=>by have h1:=K4.2.2.2 x o q e;have h2:=(m68 0 (by omega)).size;omega⟩⟩,O1,O2,Ap.of K1.2.2.2 K2.1 (Nat.le_refl _),Ap.of K1.2.2.2 K3.1 (by omega),Ap.of K1.2.2.2 K4.1 (by omega),Ap.of K2.2.2.2 K3.1 (by omega),Ap.of K2.2.2.2 K4.1 (by omega),fun x o q e=>by have h1:=K2.2.2.2 x o q e;have h2:=(m38 0 (by omega)).size;omega⟩,hb⟩
set_option maxHeartbeats 4000000 in
theorem copied_st (s:St) (r:Raw) (B:Nat) (w:World) (h:StAt w B r s) (hl1:s.tens.length≤ 900) (hl2:s.leas.length≤ 900) (hl3:s.sess.length≤ 900) (hl4:s.dsks.length≤ 900):
 Calls Tryz.prog 57 #[r.agg] w (RetCopy w s):=by
 obtain⟨term,stamp,next,⟨a1,n1,c1⟩,⟨a2,n2,c2⟩,⟨a3,n3,c3⟩,⟨a4,n4,c4⟩⟩:=r
 obtain⟨term',stamp',nx,ts,ls,ss,ds⟩:=s
 have hq1:=h.term
 have hq2:=h.stamp
 have hq3:=h.next
 have H1:=Lib.hid h.ten
 have H2:=Lib.hid h.lea
 have H3:=Lib.hid h.ses
 have H4:=Lib.hid h.dsk
 simp only at hq1 hq2 hq3 hl1 hl2 hl3 hl4
 subst hq1
 subst hq2
 subst hq3
 clear h
 have hb1:=Lib.hid (show n1*layTen.bytes≤ 140737488355328 by have:=H1.out.len;show n1*40≤ _;simp only at this;omega)
 have hb2:=Lib.hid (show n2*layLea.bytes≤ 140737488355328 by have:=H2.out.len;show n2*56≤ _;simp only at this;omega)
 have hb3:=Lib.hid (show n3*laySes.bytes≤ 140737488355328 by have:=H3.out.len;show n3*56≤ _;simp only at this;omega)
 have hb4:=Lib.hid (show n4*layDsk.bytes≤ 140737488355328 by have:=H4.out.len;show n4*64≤ _;simp only at this;omega)
 have hm1:=Lib.hid (show n1≤maxLen from le_maxLen (by have:=H1.out.len;simp only at this;omega))
 have hm2:=Lib.hid (show n2≤maxLen from le_maxLen (by have:=H2.out.len;simp only at this;omega))
 have hm3:=Lib.hid (show n3≤maxLen from le_maxLen (by have:=H3.out.len;simp only at this;omega))
 have hm4:=Lib.hid (show n4≤maxLen from le_maxLen (by have:=H4.out.len;simp only at this;omega))
 have C1:=Lib.hid (fun w' (hb:Below w.heap.size w w')=>cloneTen ts a1 n1 c1 w' H1.out.len hb1.out hm1.out H1.out.nil H1.out.le (H1.out.row.below hb))
 have C2:=Lib.hid (fun w' (hb:Below w.heap.size w w')=>cloneLea ls a2 n2 c2 w' H2.out.len hb2.out hm2.out H2.out.nil H2.out.le (H2.out.row.below hb))
 have C3:=Lib.hid (fun w' (hb:Below w.heap.size w w')=>cloneSes ss a3 n3 c3 w' H3.out.len hb3.out hm3.out H3.out.nil H3.out.le (H3.out.row.below hb))
 have C4:=Lib.hid (fun w' (hb:Below w.heap.size w w')=>cloneDsk ds a4 n4 c4 w' H4.out.len hb4.out hm4.out H4.out.nil H4.out.le (H4.out.row.below hb))
 clear hl1 hl2 hl3 hl4
 go_enter Tryz.func57,Tryz.ntmps57
 go_wp2
 have HBX:Hid (∀w',Below ((w.alloc (.cells #[.int .i64 term,.int .i64 stamp,.int .i64 next,.slice a1 n1 c1,.slice a2 n2 c2,.slice a3 n3 c3,.slice a4 n4 c4] 27)).alloc (.cells #[.int .i64 0,.int .i64 0,.int .i64 0,.slice none 0 0,.slice none 0 0,.slice none 0 0,.slice none 0 0] 27)).heap.size ((w.alloc (.cells #[.int .i64 term,.int .i64 stamp,.int .i64 next,.slice a1 n1 c1,.slice a2 n2 c2,.slice a3 n3 c3,.slice a4 n4 c4] 27)).alloc (.cells #[.int .i64 0,.int .i64 0,.int .i64 0,.slice none 0 0,.slice none 0 0,.slice none 0 0,.slice none 0 0] 27)) w'→
  Box w' w.heap.size (Raw.cells ⟨term,stamp,next,⟨a1,n1,c1⟩,⟨a2,n2,c2⟩,⟨a3,n3,c3⟩,⟨a4,n4,c4⟩⟩)∧Box w' (w.heap.size+1) (Raw.cells ⟨0,0,0,⟨none,0,0⟩,⟨none,0,0⟩,⟨none,0,0⟩,⟨none,0,0⟩⟩)):=fun w' hb=>⟨Box.of_alloc (mid_alloc' hb),Box.of_alloc1 hb⟩
 apply cut_here
 ·intro CUT1
  go_region_law (first|(go_simp;go_at_call 98;((with_reducible refine(C1.out _ belo).mono ?_);rintro e w2 ⟨x1,y1,rfl,hnear1,hcan1,hown1,hlt1,hbq1⟩;have K1:=Lib.hid (And.intro hnear1 (And.intro hcan1 (And.intro hown1 hlt1)));clear hnear1 hcan1 hown1 hlt1;have HX2:=Lib.hid (HBX.out w2 belo);obtain⟨⟨k0,k1,k2,k3,k4,k5,k6⟩,⟨z0,z1,z2,z3,z4,z5,z6⟩,zz⟩:=HX2.out.1.st;simp only at k0 k1 k2 k3 k4 k5 k6))|(go_simp;go_at_call 99;((with_reducible refine(C2.out _ belo).mono ?_);rintro e w3 ⟨x2,y2,rfl,hnear2,hcan2,hown2,hlt2,hbq2⟩;have K2:=Lib.hid (And.intro hnear2 (And.intro hcan2 (And.intro hown2 hlt2)));clear hnear2 hcan2 hown2 hlt2;clear k0 k1 k2 k3 k4 k5 k6 z0 z1 z2 z3 z4 z5 z6 zz;have HX3:=Lib.hid (HBX.out w3 belo);obtain⟨⟨k0,k1,k2,k3,k4,k5,k6⟩,⟨z0,z1,z2,z3,z4,z5,z6⟩,zz⟩:=HX3.out.1.st;simp only at k0 k1 k2 k3 k4 k5 k6)))
  all_goals
   obtain⟨w4,hw4⟩:∃x,x=(w3.setCell ⟨w.heap.size,3,none⟩ (.slice x1 ts.length y1)).setCell ⟨w.heap.size,4,none⟩ (.slice x2 ls.length y2):=⟨_,rfl⟩
   rw[←hw4]
   have B4:=Lib.hid (show Box w4 w.heap.size (Raw.cells ⟨term,stamp,next,⟨x1,ts.length,y1⟩,⟨x2,ls.length,y2⟩,⟨a3,n3,c3⟩,⟨a4,n4,c4⟩⟩) by rw[hw4];exact(HX3.out.1.set (i:=3) (by simp) _).set (i:=4) (by simp) _)
   have Z4:=Lib.hid (show Box w4 (w.heap.size+1) (Raw.cells ⟨0,0,0,⟨none,0,0⟩,⟨none,0,0⟩,⟨none,0,0⟩,⟨none,0,0⟩⟩) by rw[hw4];exact(HX3.out.2.far (by simp) _).far (by simp) _)
   have M4:=Lib.hid (show Mid (w.heap.size+1) w3.heap.size w3 w4 by rw[hw4];exact((Mid.refl _ _ _).setCell _ _ (.inl (by simp))).setCell _ _ (.inl (by simp)))
   have b34:Below w.heap.size w3 w4:=by rw[hw4];exact((Below.refl w.heap.size w3).setCell (p:=⟨w.heap.size,3,none⟩) (Nat.le_refl w.heap.size) _).setCell (p:=⟨w.heap.size,4,none⟩) (Nat.le_refl w.heap.size) _
   have b4:Below w.heap.size w w4:=Below.trans (show Below w.heap.size w w3 from belo) b34
   clear hw4 k0 k1 k2 k3 k4 k5 k6 z0 z1 z2 z3 z4 z5 z6 zz
   revert b4
   revert M4
   revert Z4
   revert B4
   revert K2
   revert hbq2
   revert K1
   revert hbq1
   revert y2
   revert x2
   revert y1
   revert x1
   clear HX2 HX3 b34
   revert w4
   revert w3
   revert w2
   exact CUT1.out
 intro w2 w3 w4 x1 y1 x2 y2 hbq1 K1 hbq2 K2 B4 Z4 M4 b4
 obtain⟨⟨k0,k1,k2,k3,k4,k5,k6⟩,⟨z0,z1,z2,z3,z4,z5,z6⟩,zz⟩:=B4.out.st
 simp only at k0 k1 k2 k3 k4 k5 k6
 go_wp2
 apply cut_here
 ·intro CUT2
  go_region_law (first|(go_simp;go_at_call 100;((with_reducible refine(C3.out _ belo).mono ?_);rintro e w5 ⟨x3,y3,rfl,hnear3,hcan3,hown3,hlt3,hbq3⟩;have K3:=Lib.hid (And.intro hnear3 (And.intro hcan3 (And.intro hown3 hlt3)));clear hnear3 hcan3 hown3 hlt3;have B5:=Lib.hid (B4.out.drew.next (by simp) hbq3);have Z5:=Lib.hid (Z4.out.drew.next (by simp) hbq3);obtain⟨⟨kp0,kp1,kp2,kp3,kp4,kp5,kp6⟩,⟨zp0,zp1,zp2,zp3,zp4,zp5,zp6⟩,zzp⟩:=B5.out.st;simp only at kp0 kp1 kp2 kp3 kp4 kp5 kp6))|(go_simp;go_at_call 101;((with_reducible refine(C4.out _ belo).mono ?_);rintro e w6 ⟨x4,y4,rfl,hnear4,hcan4,hown4,hlt4,hbq4⟩;have K4:=Lib.hid (And.intro hnear4 (And.intro hcan4 (And.intro hown4 hlt4)));clear hnear4 hcan4 hown4 hlt4;clear kp0 zp0 kp1 zp1 kp2 zp2 kp3 zp3 kp4 zp4 kp5 zp5 kp6 zp6 zzp;have B6:=Lib.hid (B5.out.next (by simp) hbq4);have Z6:=Lib.hid (Z5.out.next (by simp) hbq4);obtain⟨⟨kq0,kq1,kq2,kq3,kq4,kq5,kq6⟩,⟨zq0,zq1,zq2,zq3,zq4,zq5,zq6⟩,zzq⟩:=B6.out.st;simp only at kq0 kq1 kq2 kq3 kq4 kq5 kq6)))
  all_goals
   obtain⟨w7,hw7⟩:∃x,x=(w6.setCell ⟨w.heap.size,5,none⟩ (.slice x3 ss.length y3)).setCell ⟨w.heap.size,6,none⟩ (.slice x4 ds.length y4):=⟨_,rfl⟩
   rw[←hw7]
   have B7:=Lib.hid (show Box w7 w.heap.size (Raw.cells ⟨term,stamp,next,⟨x1,ts.length,y1⟩,⟨x2,ls.length,y2⟩,⟨x3,ss.length,y3⟩,⟨x4,ds.length,y4⟩⟩) by rw[hw7];exact(B6.out.set (i:=5) (by simp) _).set (i:=6) (by simp) _)
   have Z7:=Lib.hid (show Box w7 (w.heap.size+1) (Raw.cells ⟨0,0,0,⟨none,0,0⟩,⟨none,0,0⟩,⟨none,0,0⟩,⟨none,0,0⟩⟩) by rw[hw7];exact(Z6.out.far (by simp) _).far (by simp) _)
   have M7:=Lib.hid (show Mid (w.heap.size+1) w6.heap.size w6 w7 by rw[hw7];exact((Mid.refl _ _ _).setCell _ _ (.inl (by simp))).setCell _ _ (.inl (by simp)))
   have b67:Below w.heap.size w6 w7:=by rw[hw7];exact((Below.refl w.heap.size w6).setCell (p:=⟨w.heap.size,5,none⟩) (Nat.le_refl w.heap.size) _).setCell (p:=⟨w.heap.size,6,none⟩) (Nat.le_refl w.heap.size) _
   have b7:Below w.heap.size w w7:=Below.trans (show Below w.heap.size w w6 from belo) b67
   clear hw7 kq0 zq0 kq1 zq1 kq2 zq2 kq3 zq3 kq4 zq4 kq5 zq5 kq6 zq6 zzq
   revert b7
   revert M7
   revert Z7
   revert B7
   revert K4
   revert hbq4
   revert K3
   revert hbq3
   revert y4
   revert x4
   revert y3
   revert x3
   clear B5 Z5 B6 Z6 b67
   revert w7
   revert w6
   revert w5
   exact CUT2.out
 clear k0 k1 k2 k3 k4 k5 k6 z0 z1 z2 z3 z4 z5 z6 zz
 intro w5 w6 w7 x3 y3 x4 y4 hbq3 K3 hbq4 K4 B7 Z7 M7 b7
 go_wp2_with(first|(refine wpList_load_as laySt rfl (.tmp 1) rfl w.heap.size 0 rfl ⟨term,stamp,next,⟨x1,ts.length,y1⟩,⟨x2,ls.length,y2⟩,⟨x3,ss.length,y3⟩,⟨x4,ds.length,y4⟩⟩ (.agg #[.int .i64 term,.int .i64 stamp,.int .i64 next,.slice x1 ts.length y1,.slice x2 ls.length y2,.slice x3 ss.length y3,.slice x4 ds.length y4]) rfl B7.out.range ?_)|(refine wpList_store_keep laySt rfl (.tmp 2) (.tmp 19) rfl (w.heap.size+1) 0 ⟨term,stamp,next,⟨x1,ts.length,y1⟩,⟨x2,ls.length,y2⟩,⟨x3,ss.length,y3⟩,⟨x4,ds.length,y4⟩⟩ rfl rfl Z7.out.there ?_;intro w8 hr8 ht8 hb8 hs8 hk8))
 obtain⟨c0,c1,c2,c3,c4,c5,c6⟩:=cellsSt0 hr8
 refine bodyPost_ret (v:= .agg #[.int .i64 term,.int .i64 stamp,.int .i64 next,.slice x1 ts.length y1,.slice x2 ls.length y2,.slice x3 ss.length y3,.slice x4 ds.length y4]) (by simp[results,Tryz.results57,go_sem,c0,c1,c2,c3,c4,c5,c6]) rfl ?_
 exact copy_fin K1.out K2.out K3.out K4.out (by simp) hbq1 hbq2 M4.out hbq3 hbq4 M7.out hk8 hs8 (b7.trans (hb8 w.heap.size (Nat.le_succ _)))
def RetDelOLea (g:Nat) (w:World) (a:Option Addr) (c:Nat) (xs:List Lease) (e:Ending) (w':World):Prop:=
 e= .returned (.slice a xs.length c)∧LRow layLea w' a xs∧Only g w w'
set_option maxHeartbeats 2000000 in
theorem deleteOnlyLea (xs:List Lease) (B g n c:Nat) (fid:FuncId) (cap:Array Value) (p:Lease→ Bool) (w:World) (hn:xs.length= n) (hnc:n≤ c) (hl:c≤ maxLen) (hm:Mine layLea w B g 0 xs) (hB:B≤ w.heap.size)
 (hcf:∀(args:Array Value) (w:World),(callFunc fid args).run Tryz.prog w= .ok (.enter fid args) w)
 (hf:∀x∈ xs,∀w',Only g w w'→Calls Tryz.prog fid (#[(layLea).val x]++cap) w' fun e w''=>e= .returned (.bool (p x))∧Below w'.heap.size w' w''):
 Calls Tryz.prog 129 #[.slice (some ⟨g,0,none⟩) n c,.func (.func fid) #[] cap] w (RetDelOLea g w (some ⟨g,0,none⟩) c (xs.filter fun x=> !p x)):=by
 subst hn
 have hl2:=lt_maxLen hl
 have hlm:xs.length≤ maxLen:=Nat.le_trans hnc hl
 have HF:=Lib.hid hf
 clear hf
 have HIX:=Lib.hid (indexFuncLea xs (some ⟨g,0,none⟩) xs.length c fid cap p w rfl hlm hm.row hcf (fun x hx w' hb=>HF.out x hx w' (.of hb)))
 have HM:=Lib.hid hm
 rcases idxL_ways p xs with⟨h1,h2⟩|⟨k,hk,h1,h2,h3⟩
 ·have HI:=Lib.hid h1
  have HO:Hid ((xs.filter fun x=> !p x)=xs):=List.filter_eq_self.2 fun x hx=>by rw[h2 x hx];rfl
  clear h1 h2 hm
  generalize(xs.filter fun x=> !p x)=res at HO ⊢
  go_enter Tryz.func129,Tryz.ntmps129
  go_wp2_with(go_at_call 168;((with_reducible refine HIX.out.mono ?_);rw[HI.out];rintro e w2 ⟨rfl,hb⟩))
  go_returns
  obtain rfl:=HO.out
  exact⟨rfl,Row.below HM.out.row hb,.of hb⟩
 ·have HI:=Lib.hid h1
  have HS:=Lib.hid (df_start (q:=fun x=> !p x) hk (by simp[h2]) (fun j h hj=>by simp[h3 j h hj]))
  have HFL:Hid (∀(us:List Lease) (i:Nat),i≤us.length→ us.take i=xs.filter (fun x=> !p x)→(xs.filter fun x=> !p x).length=i):=fun us i hi h=>by rw[←h,List.length_take];omega
  have HFE:Hid (∀(us:List Lease) (i:Nat),us.take i=(xs.take xs.length).filter (fun x=> !p x)→us.take i=xs.filter (fun x=> !p x)):=fun us i h=>by rw[h,List.take_length]
  clear h1 h2 h3 hm
  have hz:=HM.out.lt (by intro h;rw[h]at hk;simp at hk)
  generalize hres:(xs.filter fun x=> !p x)=res at HFL HFE ⊢
  have HRES:=Lib.hid hres
  clear hres
  have hk1:((k:Int)== -1)=false:= by rw[beq_eq_false_iff_ne];omega
  go_enter Tryz.func129,Tryz.ntmps129
  go_wp2_with(go_at_call 168;((with_reducible refine HIX.out.mono ?_);rw[HI.out];rintro e w2 ⟨rfl,hb⟩))
  go_loopw [5,6] (fun si sj wr=>∃i j:Nat,∃us: List Lease,si= .int .i64 i∧sj= .int .i64 j∧i< j∧j≤ xs.length∧Hid (us.length=xs.length)∧Hid (us.take i=(xs.take j).filter (fun x=> !p x))∧Hid (us.drop j=xs.drop j)∧Hid (Mine layLea wr B g 0 us)∧Only g w wr) (fun _ sj _=>xs.length- (intOf sj).toNat)
  case atStart=>exact ⟨k,k+1,xs,rfl,by go_num,by omega,by omega,rfl,HS.out,rfl,HM.out.below hb hz,.of hb⟩
  case round=>
   obtain⟨i,j,us,rfl,rfl,hij,hj,HL,HT,HD,HMR,hbr⟩:=hrel
   by_cases hlt:j< xs.length
   ·have hju:j< us.length:=by rw[HL.out];exact hlt
    have hiu:i< us.length:=by rw[HL.out];omega
    have hr0:=HMR.out.range hju
    have HA:=Lib.hid (df_at hlt HL.out HD.out)
    have hgr:=HMR.out.lt (by intro h;rw[h]at hju;simp at hju)
    have hBr:B≤ wr.heap.size:=Nat.le_trans HMR.out.base (by omega)
    rw[HA.out,Nat.zero_add]at hr0
    have hrange:=Lib.hid hr0
    clear hr0
    have HF1:=fun (w':World) (hb:Only g w w')=>HF.out xs[j] (List.getElem_mem hlt) w' hb
    have HF2:=Lib.hid HF1
    clear HF1
    cases hp:p xs[j]with
    |true=>
     go_wp2_with(first|(refine wpList_load_lay layLea rfl _ rfl g (j*(layLea).size) rfl _ hrange.out ?_)|(refine wpList_store_box layLea rfl _ _ rfl xs[j] rfl rfl rfl ?_;intro w3 hw3 _ hb3 hs3;have Hw3:=Lib.hid hw3;clear hw3)|(refine wpList_load_lay layLea rfl _ rfl wr.heap.size 0 rfl _ Hw3.out ?_)|(refine(HF2.out _ (hbr.next hb3)).mono ?_;rw[hp];rintro e w4 ⟨rfl,hb4⟩))
     go_roundw
     case rel=>exact ⟨i,j+1,us,rfl,by go_num,by omega,by omega,HL.out,(df_drop hlt HT.out HD.out (by simp[hp])).1,(df_drop hlt HT.out HD.out (by simp[hp])).2,(HMR.out.below hb3 hgr).below hb4 (by omega),(hbr.next hb3).next hb4⟩
     case measure=>simp [intOf];omega
    |false=>
     have HK:=Lib.hid (df_keep hlt HL.out hij HT.out HD.out (by simp[hp]))
     go_wp2_with(first|(refine wpList_load_lay layLea rfl _ rfl g (j*(layLea).size) rfl _ hrange.out ?_)|(refine wpList_store_box layLea rfl _ _ rfl xs[j] rfl rfl rfl ?_;intro w3 hw3 _ hb3 hs3;have Hw3:=Lib.hid hw3;clear hw3)|(refine wpList_load_lay layLea rfl _ rfl wr.heap.size 0 rfl _ Hw3.out ?_)|(refine(HF2.out _ (hbr.next hb3)).mono ?_;rw[hp];rintro e w4 ⟨rfl,hb4⟩;have Hw3:=Lib.hid (rangeAt_below Hw3.out hb4 (by omega)))|(refine wpList_store_mineO layLea rfl _ _ rfl (o:=0) ((HMR.out.below hb3 hgr).below hb4 (by omega)) i hiu xs[j] (by rw[Nat.zero_add];rfl) rfl ?_;intro w5 hm5 hb5 hs5;have HM5:=Lib.hid hm5;have HB5:=Lib.hid hb5;clear hm5 hb5))
     go_roundw
     case rel=>exact ⟨i+1,j+1,us.set i xs[j],by go_num,by go_num,by omega,by omega,by show _=_;rw[List.length_set];exact HL.out,HK.out.1,HK.out.2,HM5.out,((hbr.next hb3).next hb4).trans HB5.out⟩
     case measure=>simp [intOf];omega
   ·obtain rfl:j= xs.length:=by omega
    have HR:=Lib.hid (HFE.out us i HT.out)
    have HN:=Lib.hid (HFL.out us i (by rw[HL.out];omega) HR.out)
    have hcn:¬c= i:=by omega
    have hic:i≤ c:=by omega
    have hin:i≤ xs.length:=by omega
    go_wp2_with(refine wpList_clear_mineO layLea Tryz.underlying23 rfl _ rfl (o:=0) HMR.out i (by rw[HL.out];omega) (xs.length-i) (c-i) (by rw[HL.out];omega) (by rw[Nat.zero_add];rfl) ?_;intro w5 hm5 hb5 hs5;have HM5:=Lib.hid hm5;have HB5:=Lib.hid hb5;clear hm5 hb5)
    go_returns
    have hm5:=HM5.out
    rw[HR.out]at hm5
    exact⟨by rw[HN.out];rfl,hm5.row,hbr.trans HB5.out⟩
theorem deleteOnlyNilLea (a:Option Addr) (c:Nat) (fid:FuncId) (cap:Array Value) (w:World)
 (hcf:∀(args:Array Value) (w:World),(callFunc fid args).run Tryz.prog w= .ok (.enter fid args) w):
 Calls Tryz.prog 129 #[.slice a 0 c,.func (.func fid) #[] cap] w fun e w'=>e= .returned (.slice a 0 c)∧Below w.heap.size w w':=by
 have HIX:=Lib.hid (indexFuncLea [] a 0 c fid cap (fun _=>false) w rfl (Nat.zero_le _) (.inl rfl) hcf (fun x hx=>absurd hx (by simp)))
 go_enter Tryz.func129,Tryz.ntmps129
 go_wp2_with(go_at_call 168;((with_reducible refine HIX.out.mono ?_);rintro e w2 ⟨rfl,hb⟩))
 go_returns
 exact⟨rfl,hb⟩
def RetUni (w:World) (B:Nat) (a:Option Addr) (c:Nat) (l:List Lease) (e:Ending) (w':World):Prop:=
 ∃g,e= .returned (.slice a l.length c)∧LRow layLea w' a l∧Only g w w'∧B≤ g∧((∃o q,a=some ⟨g,o,q⟩)∨g= w.heap.size)
theorem delete_uni (ls:List Lease) (B:Nat) (a:Option Addr) (n c:Nat) (fid:FuncId) (cap:Array Value) (p:Lease→ Bool) (w:World) (h:SliAt layLea w B ⟨a,n,c⟩ ls) (ho:OwnSli layLea w B ⟨a,n,c⟩ ls) (hB:B≤ w.heap.size) (hl:ls.length≤ 900)
 (hcf:∀(args:Array Value) (w:World),(callFunc fid args).run Tryz.prog w= .ok (.enter fid args) w)
 (hf:∀x∈ ls,∀w',(∀k,k<B→ w'.heap[k]? =w.heap[k]?)→Calls Tryz.prog fid (#[layLea.val x]++cap) w' fun e w''=>e= .returned (.bool (p x))∧Below w'.heap.size w' w''):
 Calls Tryz.prog 129 #[.slice a n c,.func (.func fid) #[] cap] w (RetUni w B a c (ls.filter fun x=> !p x)):=by
 obtain rfl:ls.length= n:=h.len
 by_cases h0:ls= []
 ·subst h0
  refine(deleteOnlyNilLea a c fid cap w hcf).mono fun e w' ⟨he,hb⟩=> ?_
  exact⟨w.heap.size,he,.inl rfl,.of hb,hB,.inr rfl⟩
 ·have hpos:0< ls.length:=List.length_pos_iff.2 h0
  have hown:=ho.own hpos
  obtain⟨g,rfl,hg,hcm⟩:=own_head hown (by intro h1;have:=congrArg List.length h1;rw[layLea.length,List.length_nil,Nat.mul_eq_zero]at this;have:=layLea.pos;omega)
  have hm:=Mine.of_own (L:=layLea) hown
  have hlt:=hm.lt h0
  refine(deleteOnlyLea ls B g ls.length c fid cap p w rfl h.le hcm hm hB hcf (fun x hx w' hb'=>hf x hx w' (fun k hk=>hb'.block k (by omega) (by omega)))).mono fun e w' ⟨he,hr,hb⟩=> ?_
  exact⟨g,he,hr,hb,hg,.inl ⟨0,none,rfl⟩⟩
theorem SliAt.apart {P:Program} {e:TypeId} {α:Type} {L:Lay P e α} {w w':World} {B g:Nat} {a:Option Addr} {s:Sli} {xs:List α} (h:SliAt L w B s xs) (hk:Only g w w') (hap:Ap a s.a) (hg:(∃o q,a=some ⟨g,o,q⟩)∨g= w.heap.size):SliAt L w' B s xs:=by
 refine⟨h.len,h.le,h.nil,h.near,?_⟩
 by_cases h0:xs.flatMap L.cells=[]
 ·exact .inl h0
 ·rcases h.row with h1|⟨b,o,ha,hc⟩
  ·exact absurd h1 h0
  ·have hlt:=Row.lt (.inr ⟨b,o,rfl,hc⟩) h0
   have hne:b≠ g:=by
    rcases hg with⟨o',q',e⟩|rfl
    ·exact fun e2=>hap g o' q' b o none e ha e2.symm
    ·omega
   exact .inr ⟨b,o,ha,fun i hi=>by rw[World.cell?_of_block (w:=w) (hk.block b hlt hne)];exact hc i hi⟩
theorem DskAt.apart {w w':World} {B g:Nat} {a:Option Addr} {s:Sli} {xs:List Desk} (h:DskAt w B s xs) (hk:Only g w w') (hap:Ap a s.a) (hg:(∃o q,a=some ⟨g,o,q⟩)∨g= w.heap.size):DskAt w' B s xs:=
 h.same (h.toSliAt.apart hk hap hg) hk.size fun g' _ ha _ h1=>hk.block g' h1 (by
  rcases hg with⟨o',q',e⟩|rfl
  ·exact fun e2=>hap g o' q' g' 0 none e ha e2.symm
  ·omega)
theorem RetSt.up {w w1 w':World} {s:St} {e:Ending} (h:RetSt w1 0 s e w') (hb:Below w.heap.size w w1):RetSt w 0 s e w':=let ⟨r,h1,h2,h3⟩:=h;⟨r,h1,h2,hb.trans (h3.mono hb.size)⟩
theorem row_lt {w w':World} {a:Option Addr} {xs:List Value} (h:Row w a xs) (hk:∀k,k<w.heap.size→ w'.heap[k]? =w.heap[k]?):Row w' a xs:=by
 by_cases h0:xs= []
 ·exact .inl h0
 ·rcases h with h|⟨b,o,rfl,hc⟩
  ·exact absurd h h0
  ·have hlt:=Row.lt (.inr ⟨b,o,rfl,hc⟩) h0
   exact .inr ⟨b,o,rfl,fun i hi=>by rw[World.cell?_of_block (w:=w) (hk b hlt)];exact hc i hi⟩
theorem door_st {w:World} {B g:Nat} {s:St} {fn:Func} {tmps:Array Value} {fid:FuncId} {fv:Fn} {cap:Array Value} {R:Ending→ World→Prop} (hd:CallsD Tryz.prog fid #[.pointer (some ⟨g,0,none⟩)] .returning w (DefSweep w B g s .returning))
 (hi:(invoke (.fn fv cap) #[]).run Tryz.prog w= .ok (.enter fid #[.pointer (some ⟨g,0,none⟩)]) w)
 (hr:∀w' r,Box w' g (Raw.cells r)→StAt w' B r (sweptS s)→Below g w w'→∃v,(results fn tmps).run Tryz.prog w'= .ok v w'∧R (.returned v) w'):
 Leaves Tryz.prog fn tmps R [{target:= .fn fv cap,args:= #[]}] .returning w:=by
 refine leaves_cons (f:=fid) (args:= #[.pointer (some ⟨g,0,none⟩)]) (by simp) hi ?_
 refine hd.mono ?_
 rintro e u' w9 ⟨rfl,rfl,r9,hbx9,hst9,hb9,_⟩
 exact hr w9 r9 hbx9 hst9 hb9
theorem door_only {w:World} {B g:Nat} {s:St} {fn:Func} {tmps:Array Value} {fid:FuncId} {fv:Fn} {cap:Array Value} {R:Ending→ World→Prop} (hd:CallsD Tryz.prog fid #[.pointer (some ⟨g,0,none⟩)] .returning w (DefSweep w B g s .returning))
 (hi:(invoke (.fn fv cap) #[]).run Tryz.prog w= .ok (.enter fid #[.pointer (some ⟨g,0,none⟩)]) w)
 (hr:∀w' r,Box w' g (Raw.cells r)→StAt w' B r (sweptS s)→Only g w w'→∃v,(results fn tmps).run Tryz.prog w'= .ok v w'∧R (.returned v) w'):
 Leaves Tryz.prog fn tmps R [{target:= .fn fv cap,args:= #[]}] .returning w:=by
 refine leaves_cons (f:=fid) (args:= #[.pointer (some ⟨g,0,none⟩)]) (by simp) hi ?_
 refine hd.mono ?_
 rintro e u' w9 ⟨rfl,rfl,r9,hbx9,hst9,_,ho9⟩
 exact hr w9 r9 hbx9 hst9 ho9
set_option maxHeartbeats 4000000 in
theorem expire_st (s:St) (r:Raw) (B:Nat) (zs:List Int) (za:Option Addr) (zn zc:Nat) (w:World) (h:StAt w B r s) (hl1:s.tens.length≤ 900) (hl2:s.leas.length≤ 900) (hl3:s.sess.length≤ 900) (hl4:s.dsks.length≤ 900)
 (hzn:zs.length= zn) (hzl:zn≤ 1000) (hz:Row w za (zs.map (Value.int .i64))):
 Calls Tryz.prog 73 #[r.agg,.slice za zn zc] w (RetSt w 0 (expireS s zs)):=by
 have hmf:∀(fn:Fn) (first cap:Array Value) (w:World),(Instr.makeFunc fn first cap).run Tryz.prog w= .ok (.func fn first cap) w:=fun _ _ _ _=>rfl
 have HS:=Lib.hid h
 have HL:=Lib.hid (And.intro hl1 (And.intro hl2 (And.intro hl3 hl4)))
 have HZ:=Lib.hid hz
 have HMX:=Lib.hid (show zn≤maxLen from le_maxLen (by omega))
 have HCK:=Lib.hid (fun w' (hb:Below w.heap.size w w')=>check_st s r B w' (h.below hb) hl1 hl2)
 have HCP:=Lib.hid (fun w' (hb:Below w.heap.size w w')=>copied_st s r B w' (h.below hb) hl1 hl2 hl3 hl4)
 have HE:Hid (expireS s zs=if stOk s=true then sweptS {s with leas:=s.leas.filter fun x=> !zs.contains x.id}else s):=rfl
 generalize expireS s zs=res at HE ⊢
 obtain⟨term,stamp,next,⟨a1,n1,c1⟩,⟨a2,n2,c2⟩,⟨a3,n3,c3⟩,⟨a4,n4,c4⟩⟩:=r
 have HBX:Hid (∀w',Below (((w.alloc (.cells #[.int .i64 term,.int .i64 stamp,.int .i64 next,.slice a1 n1 c1,.slice a2 n2 c2,.slice a3 n3 c3,.slice a4 n4 c4] 27)).alloc (.cells #[.slice za zn zc] 52)).alloc (.cells #[.int .i64 0,.int .i64 0,.int .i64 0,.slice none 0 0,.slice none 0 0,.slice none 0 0,.slice none 0 0] 27)).heap.size (((w.alloc (.cells #[.int .i64 term,.int .i64 stamp,.int .i64 next,.slice a1 n1 c1,.slice a2 n2 c2,.slice a3 n3 c3,.slice a4 n4 c4] 27)).alloc (.cells #[.slice za zn zc] 52)).alloc (.cells #[.int .i64 0,.int .i64 0,.int .i64 0,.slice none 0 0,.slice none 0 0,.slice none 0 0,.slice none 0 0] 27)) w'→
  Box w' w.heap.size (Raw.cells ⟨term,stamp,next,⟨a1,n1,c1⟩,⟨a2,n2,c2⟩,⟨a3,n3,c3⟩,⟨a4,n4,c4⟩⟩)∧Box w' (w.heap.size+1) [.slice za zn zc]∧Box w' (w.heap.size+1+ 1) (Raw.cells ⟨0,0,0,⟨none,0,0⟩,⟨none,0,0⟩,⟨none,0,0⟩,⟨none,0,0⟩⟩)∧w.heap.size+ 3≤w'.heap.size):=
  fun w' hb=>⟨Box.of_alloc (mid_alloc' (mid_alloc' hb)),Box.of_alloc1 (mid_alloc' hb),Box.of_alloc2 hb,by have:=hb.size;simp at this;omega⟩
 clear h hl1 hl2 hl3 hl4 hz
 cases hok:stOk s with
 |false=>
  have HOK:=Lib.hid hok
  have HO:Hid (res=s):=by show _=_;rw[HE.out,if_neg (by rw[hok];simp)]
  clear hok HE HCP
  go_enter_defers Tryz.func73,Tryz.ntmps73
  go_wp2_with(first|(refine wpList_load_as laySt rfl (.tmp 2) rfl w.heap.size 0 rfl ⟨term,stamp,next,⟨a1,n1,c1⟩,⟨a2,n2,c2⟩,⟨a3,n3,c3⟩,⟨a4,n4,c4⟩⟩ (.agg #[.int .i64 term,.int .i64 stamp,.int .i64 next,.slice a1 n1 c1,.slice a2 n2 c2,.slice a3 n3 c3,.slice a4 n4 c4]) rfl (HBX.out _ belo).1.range ?_)|(go_at_call 43;((with_reducible refine(HCK.out _ belo).mono ?_);rw[HOK.out];rintro e w3 ⟨rfl,hb3⟩;have HX3:=Lib.hid (HBX.out w3 belo)))|(refine wpList_store_whole laySt rfl (.tmp 4) (.tmp 8) rfl (w.heap.size+1+ 1) ⟨term,stamp,next,⟨a1,n1,c1⟩,⟨a2,n2,c2⟩,⟨a3,n3,c3⟩,⟨a4,n4,c4⟩⟩ _ rfl rfl HX3.out.2.2.1 rfl ?_;intro w4 hb4 hw4;have HX4:=Lib.hid hb4;have HW4:=Lib.hid hw4;clear hb4 hw4))
  have b3:Below w.heap.size w w3:=belo
  have b4:Below w.heap.size w w4:=b3.trans (HW4.out.below _ (by omega))
  obtain⟨k0,k1,k2,k3,k4,k5,k6⟩:=cellsSt0 HX4.out.range
  refine⟨.agg #[.int .i64 term,.int .i64 stamp,.int .i64 next,.slice a1 n1 c1,.slice a2 n2 c2,.slice a3 n3 c3,.slice a4 n4 c4],by simp[results,Tryz.results73,go_sem,k0,k1,k2,k3,k4,k5,k6],⟨term,stamp,next,⟨a1,n1,c1⟩,⟨a2,n2,c2⟩,⟨a3,n3,c3⟩,⟨a4,n4,c4⟩⟩,rfl,?_,b4⟩
  rw[HO.out]
  exact(HS.out.below b4).mono (Nat.zero_le _)
 |true=>
  have HOK:=Lib.hid hok
  have HO:Hid (res=sweptS {s with leas:=s.leas.filter fun x=> !zs.contains x.id}):=by show _=_;rw[HE.out,if_pos hok]
  have HFIT:Hid (Fits s.leas):=by
   have h:=hok
   unfold stOk at h
   simp only[Bool.and_eq_true]at h
   exact leasOk_fits h.1.1 h.1.2.1
  clear hok HE
  go_enter_defers Tryz.func73,Tryz.ntmps73
  go_wp2_with(first|(refine wpList_load_as laySt rfl (.tmp 2) rfl w.heap.size 0 rfl ⟨term,stamp,next,⟨a1,n1,c1⟩,⟨a2,n2,c2⟩,⟨a3,n3,c3⟩,⟨a4,n4,c4⟩⟩ (.agg #[.int .i64 term,.int .i64 stamp,.int .i64 next,.slice a1 n1 c1,.slice a2 n2 c2,.slice a3 n3 c3,.slice a4 n4 c4]) rfl (HBX.out _ belo).1.range ?_)|(go_at_call 43;((with_reducible refine(HCK.out _ belo).mono ?_);rw[HOK.out];rintro e w3 ⟨rfl,hb3⟩;have HX3:=Lib.hid (HBX.out w3 belo)))|(go_at_call 57;((with_reducible refine(HCP.out _ belo).mono ?_);rintro e w4 ⟨⟨t4,s4,n4',⟨x1,m1,y1⟩,⟨x2,m2,y2⟩,⟨x3,m3,y3⟩,⟨x4,m4,y4⟩⟩,rfl,hst4,hb4⟩;have HST4:=Lib.hid hst4;have HX4:=Lib.hid (HBX.out w4 belo);clear hst4))|(refine wpList_store_whole laySt rfl (.tmp 4) (.tmp 11) rfl (w.heap.size+1+ 1) ⟨t4,s4,n4',⟨x1,m1,y1⟩,⟨x2,m2,y2⟩,⟨x3,m3,y3⟩,⟨x4,m4,y4⟩⟩ _ rfl rfl HX4.out.2.2.1 rfl ?_;intro w5 hbx5 hw5;have HX5:=Lib.hid hbx5;have HW5:=Lib.hid hw5;have q3:=HX3.out.2.2.2;have HST5:=Lib.hid (HST4.out.mid (Mid.wrote (Mid.refl w3.heap.size w4.heap.size w4) hw5 (.inl (by omega))) (Nat.le_refl _) (Nat.le_refl _));have HZ5:=Lib.hid (HX4.out.2.1.wrote hw5 (by omega));have hb5:Below (w.heap.size+1+ 1) w4 w5:=hw5.below _ (Nat.le_refl _);have hb45:Below w.heap.size w w5:=Below.trans (show Below w.heap.size w w4 from belo) (hb5.mono (by omega));have q5:w5.heap.size= w4.heap.size:=hw5.size;have q34:=hb4.size;have k4:=hbx5.cell (j:=4) rfl;have z4:w5.frozen? ⟨w.heap.size+1+ 1,4,none⟩=false:= hbx5.froz (j:=4) (show 4<7 by decide);clear hbx5 hw5)|(go_at_call 129;(have HD:=delete_uni s.leas w3.heap.size x2 m2 y2 130 #[.pointer (some ⟨w.heap.size+1,0,none⟩)] (fun x=>zs.contains x.id) w5 HST5.out.is.lea HST5.out.lea (by omega) HL.out.2.1 enter_expire2 (fun x _ w' hk=>expire2_any x zs (w.heap.size+1) za zn zc w' hzn HMX.out ((HZ5.out.block (hk _ (by omega))).cell (j:=0) rfl) (row_lt HZ.out (fun k hk2=>(hk k (by omega)).trans (hb45.block k hk2))));(with_reducible refine HD.mono ?_);clear HD;generalize hfl:s.leas.filter (fun x=> !zs.contains x.id)=fl;have HFL:=Lib.hid hfl;clear hfl;rintro e w6 ⟨g6,rfl,hr6,ho6,hg6,ha6⟩;have HR6:=Lib.hid hr6;have HO6:=Lib.hid ho6;have HA6:=Lib.hid ha6;have q6:=ho6.size;have HX6:=Lib.hid (HX5.out.block (ho6.block (w.heap.size+1+ 1) (by omega) (by omega)));clear hr6 ho6 ha6 k4 z4))|(refine wpList_store_field rfl (.tmp 16) (.tmp 15) rfl size1_slice.1 (w.heap.size+1+ 1) 4 _ (.slice x2 fl.length y2) rfl rfl rfl rfl HX6.out (show 4<7 by decide) ?_;intro w7 hbx7 hw7;have HX7:Hid (Box w7 (w.heap.size+1+ 1) (Raw.cells ⟨t4,s4,n4',⟨x1,m1,y1⟩,⟨x2,fl.length,y2⟩,⟨x3,m3,y3⟩,⟨x4,m4,y4⟩⟩)):=hbx7;have HW7:=Lib.hid hw7;have q7:=hw7.size;clear hbx7 hw7)|(refine wpList_load_as laySt rfl (.tmp 4) rfl (w.heap.size+1+ 1) 0 rfl ⟨t4,s4,n4',⟨x1,m1,y1⟩,⟨x2,fl.length,y2⟩,⟨x3,m3,y3⟩,⟨x4,m4,y4⟩⟩ (.agg #[.int .i64 t4,.int .i64 s4,.int .i64 n4',.slice x1 m1 y1,.slice x2 fl.length y2,.slice x3 m3 y3,.slice x4 m4 y4]) rfl HX7.out.range ?_)|(refine wpList_store_whole laySt rfl (.tmp 4) (.tmp 17) rfl (w.heap.size+1+ 1) ⟨t4,s4,n4',⟨x1,m1,y1⟩,⟨x2,fl.length,y2⟩,⟨x3,m3,y3⟩,⟨x4,m4,y4⟩⟩ _ rfl rfl HX7.out rfl ?_;intro w8 hbx8 hw8;have HX8:=Lib.hid hbx8;have HW8:=Lib.hid hw8;have q8:=hw8.size;clear hbx8 hw8))
  have m58:Mid w3.heap.size w6.heap.size w6 w8:=((Mid.refl w3.heap.size w6.heap.size w6).wrote HW7.out (.inl (by omega))).wrote HW8.out (.inl (by omega))
  have S8:StAt w8 w3.heap.size ⟨t4,s4,n4',⟨x1,m1,y1⟩,⟨x2,fl.length,y2⟩,⟨x3,m3,y3⟩,⟨x4,m4,y4⟩⟩ {s with leas:=fl}:=by
   have i5:=HST5.out
   have hle:fl.length≤ y2:=Nat.le_trans (by rw[←HFL.out];exact Nat.le_trans (List.length_filter_le _ _) (Nat.le_of_eq i5.is.lea.len)) i5.is.lea.le
   have l6:SliAt layLea w6 w3.heap.size ⟨x2,fl.length,y2⟩ fl:=⟨rfl,hle,i5.is.lea.nil,i5.is.lea.near,HR6.out⟩
   exact⟨i5.is.term,i5.is.stamp,i5.is.next,(i5.is.ten.apart HO6.out i5.tl.symm HA6.out).mid m58 (Nat.le_refl _) (Nat.le_refl _),l6.mid m58 (Nat.le_refl _) (Nat.le_refl _),(i5.is.ses.apart HO6.out i5.ls HA6.out).mid m58 (Nat.le_refl _) (Nat.le_refl _),(i5.is.dsk.apart HO6.out i5.ld HA6.out).mid m58 (Nat.le_refl _) (Nat.le_refl _)⟩
  have b8:Below w.heap.size w w8:=((hb45.trans (HO6.out.below (by omega) (by omega))).trans (HW7.out.below _ (by omega))).trans (HW8.out.below _ (by omega))
  refine door_st (expire1_d w3.heap.size (w.heap.size+1+ 1) {s with leas:=fl} .returning w8 (sweep_st {s with leas:=fl} _ w3.heap.size (w.heap.size+1+ 1) w8 HX8.out S8 (by omega) (by omega) (HFIT.out.sub (fun x hx=>(List.mem_filter.1 (show x∈s.leas.filter (fun x=> !zs.contains x.id) by rw[HFL.out];exact hx)).1)) HL.out.1 (by show fl.length≤900;rw[←HFL.out];exact Nat.le_trans (List.length_filter_le _ _) HL.out.2.1))) (by simp[go_sem]) ?_
  intro w9 r9 hbx9 hst9 hb9
  obtain⟨k0,k1,k2,k3,k4,k5,k6⟩:=cellsSt0 hbx9.range
  refine⟨r9.agg,by simp[results,Tryz.results73,go_sem,k0,k1,k2,k3,k4,k5,k6],r9,rfl,?_,b8.trans (hb9.mono (by omega))⟩
  rw[HO.out,HFL.out]
  exact hst9.mono (Nat.zero_le _)
def Bex (w:World) (g:Nat) (cs:List Value):Prop:= ∃t,w.heap[g]? =some (.cells cs.toArray t (0,0))
theorem Bex.cell' {w:World} {g:Nat} {cs:List Value} (h:Bex w g cs) (j:Nat):w.cell? ⟨g,j,none⟩=cs[j]?:=by
 obtain⟨t,h⟩:=h
 simp[World.cell?,h]
theorem Bex.box {w:World} {g:Nat} {cs:List Value} (h:Bex w g cs):Box w g cs:=⟨fun j v hj=>by rw[Nat.zero_add,h.cell' j,hj],fun j hj=>by
 rw[Nat.zero_add,h.cell' j]
 refine⟨by rw[List.getElem?_eq_getElem hj];rfl,?_⟩
 obtain⟨t,h⟩:=h
 simp[World.frozen?,h]⟩
theorem Bex.lt {w:World} {g:Nat} {cs:List Value} (h:Bex w g cs):g< w.heap.size:=by
 obtain⟨t,h⟩:=h
 exact(Array.getElem?_eq_some_iff.1 h).1
theorem Bex.block {w w':World} {g:Nat} {cs:List Value} (h:Bex w g cs) (hg:w'.heap[g]? =w.heap[g]?):Bex w' g cs:=by
 obtain⟨t,h⟩:=h
 exact⟨t,hg.trans h⟩
theorem Bex.next {w w':World} {g:Nat} {cs:List Value} (h:Bex w g cs) (hb:Below w.heap.size w w'):Bex w' g cs:=h.block (hb.block g h.lt)
theorem Bex.below {w w':World} {g B:Nat} {cs:List Value} (h:Bex w g cs) (hb:Below B w w') (hg:g< B):Bex w' g cs:=h.block (hb.block g hg)
theorem Bex.wrote {w w':World} {g g':Nat} {cs:List Value} (h:Bex w g cs) (hw:Wrote g' w w') (hne:g≠ g'):Bex w' g cs:=h.block (hw.keep g hne)
theorem Bex.only {w w':World} {g g':Nat} {cs:List Value} (h:Bex w g cs) (hw:Only g' w w') (hne:g≠ g'):Bex w' g cs:=h.block (hw.block g h.lt hne)
theorem Bex.drew {w:World} {g:Nat} {cs:List Value} (h:Bex w g cs):Bex w.drew g cs:=h.block rfl
theorem Bex.far {w:World} {g:Nat} {cs:List Value} (h:Bex w g cs) {p:Addr} (hp:p.block≠ g) (v:Value):Bex (w.setCell p v) g cs:=h.block (Below.heap_setCell _ _ _ _ (fun e=>hp e.symm))
theorem Bex.set {w:World} {g:Nat} {cs:List Value} (h:Bex w g cs) (i:Nat) (v:Value):Bex (w.setCell ⟨g,i,none⟩ v) g (cs.set i v):=by
 obtain⟨t,h⟩:=h
 refine⟨t,?_⟩
 rw[heap_setCell_same w g i _ t v h,List.setIfInBounds_toArray]
theorem Bex.new (w:World) (cs:List Value) (t:TypeId):Bex (w.alloc (.cells cs.toArray t)) w.heap.size cs:=⟨t,heap_alloc_new w _⟩
theorem Bex.of_alloc {w w':World} {cs:List Value} {t:TypeId} (hb:Below (w.alloc (.cells cs.toArray t)).heap.size (w.alloc (.cells cs.toArray t)) w'):Bex w' w.heap.size cs:=(Bex.new w cs t).next hb
theorem bex_setCells {g:Nat}:∀(vs:List Value) (w:World) (pre mid post:List Value),mid.length=vs.length→ Bex w g (pre++(mid++post))→Bex (w.setCells g pre.length vs) g (pre++(vs++post))
 |[],w,pre,mid,post,hl,h=>by
  obtain rfl:mid= []:=List.eq_nil_of_length_eq_zero hl
  exact h
 |v:: vs,w,pre,[],post,hl,h=>by cases hl
 |v:: vs,w,pre,m::mid,post,hl,h=>by
  rw[World.setCells]
  have h1:=h.set pre.length v
  rw[List.set_append_right _ _ (Nat.le_refl _),Nat.sub_self,List.cons_append,List.set_cons_zero]at h1
  have h2:Bex (w.setCell ⟨g,pre.length,none⟩ v) g ((pre++[v])++(mid++post)):=by rw[List.append_assoc];exact h1
  have h3:=bex_setCells vs _ (pre++[v]) mid post (by simpa using hl) h2
  rw[List.length_append,List.length_singleton,List.append_assoc]at h3
  exact h3
theorem Bex.put {w:World} {g:Nat} {cs vs:List Value} (h:Bex w g cs) (hl:cs.length= vs.length):Bex (w.setCells g 0 vs) g vs:=by
 have:=bex_setCells (g:=g) vs w [] cs [] hl (by simpa using h)
 simpa using this
section
variable {P:Program} {e:TypeId} {α:Type}
theorem wpList_store_bex {ops:Array Oper} {rest:List Oper} {op:Oper} {a:Act} {w:World} {Q:Exit→ Act→World→ Prop} (L:Lay P e α) (hgd:op.guard= none) (x y:Operand) (ho:op.op= .store e x y)
 (g:Nat) (z:α) (cs:List Value) (hx:a.eval x= .pointer (some ⟨g,0,none⟩)) (hy:a.eval y=L.val z) (hb:Bex w g cs) (hl:cs.length= L.size)
 (h:∀w',Bex w' g (L.cells z)→Wrote g w w'→wpList P ops Q rest (a.put op.dst undef) w'):wpList P ops Q (op::rest) a w:=
 wpList_store_lay L hgd x y ho g 0 z hx hy (by rw[←hl];exact hb.box.there) (h _ (hb.put (by rw[hl,L.len])) ⟨fun _ hB=>Below.setCells hB _ _ (Below.refl _ _),setCells_size _ _ _ _,fun k hk=>setCells_keep g _ _ _ k hk⟩)
theorem at_load {P:Program} {ops:Array Oper} {Q:Exit→ Act→World→ Prop} {rest:List Oper} {a:Act} {w:World} {d:Option Tmp} {t:TypeId} {p:String} {af:Array Edge} {g:Option (Nat×Bool)} (e:TypeId) (x:Operand)
 (h:wpList P ops Q ({dst:=d,op:= .load e x,type:=t,pos:=p,after:=af,guard:=g}::rest) a w):wpList P ops Q ({dst:=d,op:= .load e x,type:=t,pos:=p,after:=af,guard:=g}::rest) a w:=h
theorem at_store {P:Program} {ops:Array Oper} {Q:Exit→ Act→World→ Prop} {rest:List Oper} {a:Act} {w:World} {d:Option Tmp} {t:TypeId} {p:String} {af:Array Edge} {g:Option (Nat×Bool)} (e:TypeId) (x y:Operand)
 (h:wpList P ops Q ({dst:=d,op:= .store e x y,type:=t,pos:=p,after:=af,guard:=g}::rest) a w):wpList P ops Q ({dst:=d,op:= .store e x y,type:=t,pos:=p,after:=af,guard:=g}::rest) a w:=h
def Misfit (L:Lay P e α) (cs:List Value):Prop:= ∀x o,∃(i:Nat) (v:Value),(L.cells x)[i]? =some v∧cs[o+i]?≠some v
variable {L:Lay P e α}
theorem LRow.off {w:World} {a:Option Addr} {xs:List α} {g:Nat} {cs:List Value} (h:LRow L w a xs) (hb:Bex w g cs) (hm:Misfit L cs) (h0:xs≠ []):∀b o s,a=some ⟨b,o,s⟩→b≠ g:=by
 rintro b o s rfl rfl
 rcases h with h|⟨b',o',he,hc⟩
 ·cases xs with
  |nil=> exact h0 rfl
  |cons x xs=>
   obtain⟨i,v,h1,_⟩:=hm x o
   have h2:=congrArg List.length h
   rw[List.flatMap_cons,List.length_append,List.length_nil]at h2
   have h3:=(List.getElem?_eq_some_iff.1 h1).1
   omega
 ·simp only[Option.some.injEq,Addr.mk.injEq]at he
  obtain⟨rfl,rfl,rfl⟩:=he
  cases xs with
  |nil=> exact h0 rfl
  |cons x xs=>
   obtain⟨i,v,h1,h2⟩:=hm x o
   have h3:=(List.getElem?_eq_some_iff.1 h1).1
   have hi:i< ((x::xs).flatMap L.cells).length:=by rw[List.flatMap_cons,List.length_append];omega
   have h4:=hc i hi
   rw[hb.cell' (o+i)]at h4
   refine h2 (h4.trans ?_)
   rw[←List.getElem?_eq_getElem hi,List.flatMap_cons,List.getElem?_append_left h3]
   exact h1
theorem LRow.turned {w w':World} {a:Option Addr} {xs:List α} {g:Nat} {cs:List Value} (h:LRow L w a xs) (hb:Bex w g cs) (hm:Misfit L cs) (hk:∀k,k<w.heap.size→ k≠g→ w'.heap[k]? =w.heap[k]?):LRow L w' a xs:=by
 by_cases h0:xs= []
 ·subst h0;exact .inl rfl
 ·exact h.keep (g:=g) hk (h.off hb hm h0)
theorem SliAt.turned {w w':World} {B:Nat} {s:Sli} {xs:List α} {g:Nat} {cs:List Value} (h:SliAt L w B s xs) (hb:Bex w g cs) (hm:Misfit L cs) (hk:∀k,k<w.heap.size→ k≠g→ w'.heap[k]? =w.heap[k]?):SliAt L w' B s xs:=⟨h.len,h.le,h.nil,h.near,h.row.turned hb hm hk⟩
end
theorem DskAt.turned {w w':World} {B:Nat} {s:Sli} {xs:List Desk} {g:Nat} {cs:List Value} (h:DskAt w B s xs) (hb:Bex w g cs) (hm:Misfit layDsk cs) (hl:0< cs.length∧cs.length< 8) (hs:w.heap.size≤ w'.heap.size) (hk:∀k,k<w.heap.size→ k≠g→ w'.heap[k]? =w.heap[k]?):DskAt w' B s xs:=by
 have hrow:=h.row.turned hb hm hk
 refine⟨h.toSliAt.turned hb hm hk,fun h0=> ?_,fun h0 x o q e=>Nat.lt_of_lt_of_le (h.lt h0 x o q e) hs⟩
 have ho:=h.own h0
 have key:∀ {v n ys},w.ownsRow B 66 layDsk.size v n ys→w'.ownsRow B 66 layDsk.size v n ys:=fun {v n ys} q=>by
  obtain⟨q1,q2⟩:=q
  refine⟨q1,?_⟩
  rcases q2 with q2|⟨g',cap,cur,q3,q4,q5,q6,q7,q8,q9⟩
  ·exact .inl q2
  ·refine .inr ⟨g',cap,cur,q3,q4,?_,q6,q7,q8,q9⟩
   have hlt:=(Array.getElem?_eq_some_iff.1 q5).1
   by_cases e:g'= g
   ·subst e
    obtain⟨t,hb⟩:=hb
    rw[q5]at hb
    simp only[Option.some.injEq,Obj.cells.injEq]at hb
    have h1:=congrArg Array.size hb.1
    rw[q8]at h1
    simp only[List.size_toArray]at h1
    have h2:cap* 8=cs.length:= h1
    omega
   ·rw[hk g' hlt e];exact q5
 exact⟨⟨ho.can.1,ho.can.2.1,ho.can.2.2.imp (fun q=>⟨q.1,hrow⟩) key⟩,fun h1=>key (ho.own h1)⟩
structure Misfits (cs:List Value):Prop where
 ten:Misfit layTen cs
 lea:Misfit layLea cs
 ses:Misfit laySes cs
 dsk:Misfit layDsk cs
 len:0< cs.length∧cs.length< 8
theorem StAt.turned {w w':World} {B:Nat} {r:Raw} {s:St} {g:Nat} {cs:List Value} (h:StAt w B r s) (hb:Bex w g cs) (hm:Misfits cs) (hs:w.heap.size≤ w'.heap.size) (hk:∀k,k<w.heap.size→ k≠g→ w'.heap[k]? =w.heap[k]?):StAt w' B r s:=
 ⟨h.term,h.stamp,h.next,h.ten.turned hb hm.ten hk,h.lea.turned hb hm.lea hk,h.ses.turned hb hm.ses hk,h.dsk.turned hb hm.dsk hm.len hs hk⟩
theorem fit3 {x:List Value} {o:Nat} {cs:List Value} {a:Option Addr} {m c:Nat} (h0:∀j,j≤3→ ∃k,x[j]? =some (.int .i64 k)) (h3:cs[3]? =some (.slice a m c)) (hl:cs.length= 7):∃(i:Nat) (v:Value),x[i]? =some v∧cs[o+i]?≠some v:=by
 by_cases ho:o≤ 3
 ·obtain⟨k,hk⟩:=h0 (3-o) (by omega)
  refine⟨3-o,_,hk,?_⟩
  rw[show o+(3-o)=3 by omega,h3]
  simp
 ·obtain⟨k,hk⟩:=h0 3 (Nat.le_refl _)
  refine⟨3,_,hk,?_⟩
  rw[List.getElem?_eq_none (by omega)]
  simp
theorem misfits_st (r:Raw):Misfits r.cells:=by
 have go:∀(x:List Value),(∀j,j≤3→ ∃k,x[j]? =some (.int .i64 k))→∀o,∃(i:Nat) (v:Value),x[i]? =some v∧r.cells[o+i]?≠some v:=fun x h o=>fit3 h rfl rfl
 have f4:∀(a b c d:Int) (l:List Value) (j:Nat),j≤3→ ∃k,(Value.int .i64 a:: .int .i64 b:: .int .i64 c:: .int .i64 d::l)[j]? =some (.int .i64 k):=fun a b c d l j hj=>by
  match j,hj with
  |0,_=>exact ⟨a,rfl⟩
  |1,_=>exact ⟨b,rfl⟩
  |2,_=>exact ⟨c,rfl⟩
  |3,_=>exact ⟨d,rfl⟩
 exact⟨fun x=>go _ (f4 _ _ _ _ _),fun x=>go _ (f4 _ _ _ _ _),fun x=>go _ (f4 _ _ _ _ _),fun x=>go _ (f4 _ _ _ _ _),show 0<7∧ 7<8 by decide⟩
theorem misfits_ans (a:Ans):Misfits a.cells:=by
 refine⟨fun x o=>⟨4,.bool x.gone,rfl,?_⟩,fun x o=>⟨6,_,rfl,?_⟩,fun x o=>⟨6,_,rfl,?_⟩,fun x o=>⟨6,_,rfl,?_⟩,show 0<5∧ 5<8 by decide⟩
 ·by_cases ho:o= 0
  ·subst ho;simp
  ·rw[List.getElem?_eq_none (by simp;omega)];simp
 ·rw[List.getElem?_eq_none (by simp)];simp
 ·rw[List.getElem?_eq_none (by simp)];simp
 ·rw[List.getElem?_eq_none (by simp)];simp
end Go.Proofs.YtfdmhpohfjbpfaaGreat
namespace Go.Proofs.YtfdmhpohfjbpfaaGreat
theorem stOk_parts {s:St} (h:stOk s=true):tensOk 0 s.tens=true∧ leasOk s.tens s.next s.leas=true∧ (s.leas.length≤64∧ 1≤s.next∧ s.next≤1099511627776)∧∀x∈ s.tens,tenRoom s.leas x=true:= by
 unfold stOk at h
 simp only[Bool.and_eq_true,decide_eq_true_eq]at h
 exact⟨h.1.1,h.1.2.1,h.1.2.2,List.all_eq_true.1 h.2⟩
theorem stOk_mk {s:St} (h1:tensOk 0 s.tens=true) (h2:leasOk s.tens s.next s.leas=true) (h3:s.leas.length≤ 64∧1≤ s.next∧s.next≤ 1099511627776) (h4:∀x∈ s.tens,tenRoom s.leas x=true):stOk s=true:= by
 unfold stOk
 rw[h1,h2,decide_eq_true h3,List.all_eq_true.2 h4];rfl
theorem findO_of_mem {ts:List Tenant} {x:Tenant} (h:ts.Pairwise (fun x y=>x.id< y.id)) (hx:x∈ ts):findO ts x.id=some x:=by
 unfold findO
 induction ts with
 |nil=> cases hx
 |cons y l ih=>
  rw[List.pairwise_cons]at h
  rw[List.find?_cons]
  rcases List.mem_cons.1 hx with rfl|hx
  ·simp
  ·have h1:=h.1 x hx
   have:(y.id==x.id)=false:= by simp;omega
   rw[this];exact ih h.2 hx
theorem findO_filter {ts:List Tenant} {q:Tenant→ Bool} {id:Int} (h:ts.Pairwise (fun x y=>x.id< y.id)):
 findO (ts.filter q) id=match findO ts id with|some x=>if q x=true then some x else none|none=> none:=by
 cases hf:findO ts id with
 |none=>
  unfold findO at hf ⊢
  rw[List.find?_eq_none]at hf ⊢
  exact fun x hx=>hf x (List.mem_filter.1 hx).1
 |some x=>
  obtain⟨h1,h2⟩:=findO_mem hf
  subst h2
  simp only
  by_cases hq:q x=true
  ·rw[if_pos hq]
   exact findO_of_mem (h.sublist List.filter_sublist) (List.mem_filter.2 ⟨h1,hq⟩)
  ·rw[if_neg hq]
   unfold findO
   rw[List.find?_eq_none]
   intro y hy hyx
   obtain⟨h3,h4⟩:=List.mem_filter.1 hy
   have h5:=findO_of_mem h h3
   have h6:y.id= x.id:=by simpa using hyx
   rw[h6]at h5
   rw[findO_of_mem h h1]at h5
   simp only[Option.some.injEq]at h5
   rw[←h5]at h4
   exact hq h4
theorem tensOk_sub {ts:List Tenant} {q:Tenant→ Bool} (h:tensOk 0 ts=true):tensOk 0 (ts.filter q)=true:= by
 obtain⟨h1,h2⟩:=tensOk_iff.1 h
 exact tensOk_iff.2 ⟨fun x hx=>h1 x (List.mem_filter.1 hx).1,h2.sublist List.filter_sublist⟩
theorem outOf_outs {ls:List Lease} {id:Int} (h1:1≤ id) (h2:id≤ 16):outOf (outsL ls) id=outL ls id:=by
 unfold outOf outsL
 rw[List.getD_eq_getElem?_getD,List.getElem?_map,List.getElem?_range (by omega)]
 simp only[Option.map_some,Option.getD_some]
 congr 1;omega
theorem swept_tens {s:St} (h:tensOk 0 s.tens=true):(sweptS s).tens=s.tens.filter (fun x=> !goneP (outsL s.leas) x):=by
 unfold sweptS sweepS;rw[if_pos h]
theorem ten_id {ts:List Tenant} {x:Tenant} (h:tensOk 0 ts=true) (hx:x∈ ts):1≤ x.id∧x.id≤ 16:=by
 have h1:=(tensOk_iff.1 h).1 x hx
 have h2:=h1.2
 unfold okT at h2
 simp only[Bool.and_eq_true,decide_eq_true_eq]at h2
 omega
theorem gone_zero {ts:List Tenant} {x:Tenant} (h:tensOk 0 ts=true) (hx:x∈ ts) (hg:x.gone= true):x.rate= 0∧x.burst= 0∧x.bucket= 0:=by
 have h1:=(tensOk_iff.1 h).1 x hx
 have h2:=h1.2
 unfold okT ask4 at h2
 simp only[Bool.and_eq_true,decide_eq_true_eq,hg,Bool.not_true,Bool.false_or]at h2
 exact h2.2
def buck (ts:List Tenant) (id:Int):Int:= (findT ts id).1.bucket
theorem buck_swept {s:St} (h:tensOk 0 s.tens=true) (id:Int):buck (sweptS s).tens id=buck s.tens id:=by
 unfold buck
 have h':=tensOk_sub (q:=fun x=> !goneP (outsL s.leas) x) h
 rw[swept_tens h,findT_eq id h',findT_eq id h,findO_filter (tensOk_iff.1 h).2]
 cases hf:findO s.tens id with
 |none=> rfl
 |some x=>
  obtain⟨h1,h2⟩:=findO_mem hf
  simp only
  by_cases hq:(!goneP (outsL s.leas) x)=true
  ·rw[if_pos hq]
  ·rw[if_neg hq]
   have hg:x.gone= true:=by
    unfold goneP at hq
    simp only[Bool.not_eq_true,Bool.not_eq_false',Bool.and_eq_true]at hq
    exact hq.1
   have:=gone_zero h h1 hg
   simp[zeroT,this.2.2]
theorem stOk_swept {s:St} (h1:tensOk 0 s.tens=true) (h2:leasOk s.tens s.next s.leas=true) (h3:s.leas.length≤ 64∧1≤ s.next∧s.next≤ 1099511627776) (h4:∀x∈ s.tens,tenRoom s.leas x=true):stOk (sweptS s)=true:= by
 have ht:=swept_tens h1
 have hfit:=leasOk_fits h1 h2
 refine stOk_mk (by rw[ht];exact tensOk_sub h1) ?_ h3 (fun x hx=>h4 x (by rw[ht]at hx;exact(List.mem_filter.1 hx).1))
 obtain⟨h5,h6⟩:=chainOk_iff.1 h2
 refine chainOk_iff.2 ⟨fun x hx=>⟨(h5 x hx).1,?_⟩,h6⟩
 have h7:=(h5 x hx).2
 unfold leaGood at h7 ⊢
 simp only[Bool.and_eq_true,decide_eq_true_eq]at h7 ⊢
 refine⟨?_,h7.2⟩
 have h8:=h7.1
 rw[findT_eq _ h1]at h8
 rw[ht,findT_eq _ (tensOk_sub h1),findO_filter (tensOk_iff.1 h1).2]
 cases hf:findO s.tens x.tenant with
 |none=> rw[hf]at h8;cases h8
 |some y=>
  obtain⟨hy1,hy2⟩:=findO_mem hf
  simp only
  have hid:=ten_id h1 hy1
  have hout:=outL_mem hfit hx
  have hpos:0< outL s.leas x.tenant:=by omega
  have hq:(!goneP (outsL s.leas) y)=true:= by
   unfold goneP
   rw[outOf_outs hid.1 hid.2,hy2]
   simp;exact .inr hpos
  rw[if_pos hq]
theorem outL_filter {ls:List Lease} (q:Lease→ Bool) (id:Int):Fits ls→outL (ls.filter q) id≤outL ls id:=by
 induction ls with
 |nil=> intro _;exact Int.le_refl _
 |cons y l ih=>
  intro h
  have h1:=h y (List.mem_cons_self ..)
  have h2:=ih fun x hx=>h x (List.mem_cons_of_mem _ hx)
  rw[List.filter_cons]
  split
  ·rw[outL,outL];split<;>omega
  ·rw[outL];split<;>omega
theorem tenRoom_less {ls ls':List Lease} {x:Tenant} (h:tenRoom ls x=true) (hle:outL ls' x.id≤outL ls x.id):tenRoom ls' x=true:= by
 unfold tenRoom at*
 simp only[decide_eq_true_eq]at*
 intro h1
 have:=h h1
 omega
theorem leasOk_filter {ts:List Tenant} {next:Int} {ls:List Lease} (q:Lease→ Bool) (h:leasOk ts next ls=true):leasOk ts next (ls.filter q)=true:= by
 obtain⟨h1,h2⟩:=chainOk_iff.1 h
 exact chainOk_iff.2 ⟨fun x hx=>h1 x (List.mem_filter.1 hx).1,h2.sublist List.filter_sublist⟩
theorem expire_ok {s:St} (h:stOk s=true) (l:List Int):stOk (expireS s l)=true∧ ∀id,buck (expireS s l).tens id+1000* outL (expireS s l).leas id≤buck s.tens id+1000* outL s.leas id:=by
 obtain⟨h1,h2,h3,h4⟩:=stOk_parts h
 have hfit:=leasOk_fits h1 h2
 have he:expireS s l=sweptS {s with leas:=s.leas.filter fun x=> !l.contains x.id}:=by unfold expireS;rw[if_pos h]
 rw[he]
 have hlen:=List.length_filter_le (fun x:Lease=> !l.contains x.id) s.leas
 refine⟨stOk_swept h1 (leasOk_filter _ h2) ⟨by show(s.leas.filter fun x=> !l.contains x.id).length≤64;omega,h3.2⟩ (fun x hx=>tenRoom_less (h4 x hx) (outL_filter _ _ hfit)),fun id=> ?_⟩
 rw[buck_swept (s:={s with leas:=s.leas.filter fun x=> !l.contains x.id}) h1]
 have:=outL_filter (fun x:Lease=> !l.contains x.id) id hfit
 show buck s.tens id+1000* outL (s.leas.filter fun x=> !l.contains x.id) id≤_
 omega
def Rising (l:List Lease):Prop:= l.Pairwise (fun x y=>x.id< y.id)
theorem Rising.apart {l:List Lease} (h:Rising l) {i j:Nat} (hi:i< l.length) (hj:j< l.length) (hne:i≠ j):l[i].id≠l[j].id:=by
 have hp:=List.pairwise_iff_getElem.1 h
 rcases Nat.lt_or_gt_of_ne hne with h1|h1
 ·have:=hp i j hi hj h1;omega
 ·have:=hp j i hj hi h1;omega
theorem leasOk_rising {ts:List Tenant} {next:Int} {ls:List Lease} (h:leasOk ts next ls=true):Rising ls:=(chainOk_iff.1 h).2
theorem dropL_at:∀ {l:List Lease} {k:Nat},Rising l→∀hk: k<l.length,dropL l[k].id l=l.eraseIdx k
 |x:: l,0,h,_=>by
  have h2:=List.pairwise_cons.1 h
  show dropL x.id (x::l)=l
  unfold dropL
  rw[List.filter_cons,if_neg (by simp)]
  refine List.filter_eq_self.2 fun y hy=> ?_
  have:=h2.1 y hy
  simp;omega
 |x:: l,k+1,h,hk=>by
  have h2:=List.pairwise_cons.1 h
  have hk':k< l.length:=by simpa using hk
  have hm:l[k]∈l:= List.getElem_mem hk'
  have h3:=h2.1 _ hm
  have ih:=dropL_at (l:=l) (k:=k) h2.2 hk'
  show dropL l[k].id (x::l)=x:: l.eraseIdx k
  unfold dropL at ih ⊢
  rw[List.filter_cons,if_pos (by simp;omega),ih]
theorem spendL_none {l:List Lease} {le sp:Int} (h:∀y∈ l,y.id≠le):spendL le sp l=l:= by
 unfold spendL
 conv=>rhs;rw[←List.map_id l]
 exact List.map_congr_left fun y hy=>by rw[if_neg (h y hy)];rfl
theorem spendL_at:∀ {l:List Lease} {k:Nat} {sp:Int},Rising l→∀hk: k<l.length,spendL l[k].id sp l=l.set k {l[k]with spent:=sp}
 |x:: l,0,sp,h,_=>by
  have h2:=List.pairwise_cons.1 h
  show spendL x.id sp (x::l)={x with spent:=sp}::l
  have:=spendL_none (l:=l) (le:=x.id) (sp:=sp) (fun y hy=>by have:=h2.1 y hy;omega)
  unfold spendL at this ⊢
  rw[List.map_cons,if_pos rfl,this]
 |x:: l,k+1,sp,h,hk=>by
  have h2:=List.pairwise_cons.1 h
  have hk':k< l.length:=by simpa using hk
  have hm:l[k]∈l:= List.getElem_mem hk'
  have h3:=h2.1 _ hm
  have ih:=spendL_at (l:=l) (k:=k) (sp:=sp) h2.2 hk'
  show spendL l[k].id sp (x::l)=x:: l.set k {l[k]with spent:=sp}
  unfold spendL at ih ⊢
  rw[List.map_cons,if_neg (by omega),ih]
end Go.Proofs.YtfdmhpohfjbpfaaGreat
