import Derived.Test.YtfdmhpohfjbpfaaGreatSq17
set_option linter.unusedVariables false
set_option linter.unusedSimpArgs false
namespace Go.Proofs.YtfdmhpohfjbpfaaGreat
open Go.ChangeShapes Go.WideShapes Go.ChangeAt Go.RowKit
set_option maxRecDepth 100000
set_option maxHeartbeats 16000000 in
theorem report_back (s:St) (r:Raw) (B:Nat) (sh ep le sp:Int) (cl:Bool) (w:World) (h:StAt w B r s) (hl1':s.tens.length≤ 800) (hl2:s.leas.length≤ 900) (hl3:s.sess.length≤ 900) (hl4:s.dsks.length≤ 900)
 (i0 i1 i2 i3 i4 i5 i6:Int) (k:Nat) (hok:stOk s=true) (hix:idxL (leaIs sh ep le) s.leas=k) (hx:∃hk: k<s.leas.length,s.leas[k]=⟨i0,i1,i2,i3,i4,i5,i6⟩) (hr0:0≤ i6) (hr1:i6≤ i5) (hr2:i5≤ 1000000) (fid frate fburst fbucket:Int) (ok:Bool) (hfd:findT s.tens i1=(⟨fid,frate,fburst,fbucket,false⟩,ok)) (hcl:cl= true) (hc0:i6≤ sp) (hc:sp≤ i5):
 Calls Tryz.prog 71 #[r.agg,.int .i64 sh,.int .i64 ep,.int .i64 le,.int .i64 sp,.bool cl] w (RetSEN w (sweptS {s with leas:=s.leas.eraseIdx k,tens:=(setS s.tens ⟨fid,frate,fburst,backI fbucket fburst (outL (s.leas.eraseIdx k) i1) (i5-sp),false⟩).1},0)):=by
 have hl1:s.tens.length≤ 900:=by omega
 have hmf:∀(fn:Fn) (first cap:Array Value) (w:World),(Instr.makeFunc fn first cap).run Tryz.prog w= .ok (.func fn first cap) w:=fun _ _ _ _=>rfl
 have HS:=Lib.hid h
 have HL:=Lib.hid (And.intro hl1 (And.intro hl2 (And.intro hl3 hl4)))
 have HCK:=Lib.hid (fun w' (hb:Below w.heap.size w w')=>check_st s r B w' (h.below hb) hl1 hl2)
 have HOK:=Lib.hid hok
 have HFIT:=Lib.hid (stOk_ten hok).2
 have HCP:=Lib.hid (fun w' (hb:Below w.heap.size w w')=>copied_st s r B w' (h.below hb) hl1 hl2 hl3 hl4)
 have HPF:=Lib.hid (fun te w' (hb:Below w.heap.size w w')=>pfind_any s.tens r.ten.a r.ten.n r.ten.c te w' h.ten.len (le_maxLen (by omega)) (Row.below h.trow hb))
 have HPL:=Lib.hid (fun gl gs ge w' (hb:Below w.heap.size w w') (hc1:w'.cell? ⟨gl,0,none⟩=some (.int .i64 le)) (hc2:w'.cell? ⟨gs,0,none⟩=some (.int .i64 sh)) (hc3:w'.cell? ⟨ge,0,none⟩=some (.int .i64 ep))=>place_lea s.leas r.lea.a r.lea.n r.lea.c 124 #[.pointer (some ⟨gl,0,none⟩),.pointer (some ⟨gs,0,none⟩),.pointer (some ⟨ge,0,none⟩)] (leaIs sh ep le) w' h.lea.len (le_maxLen (by have:=h.lea.len;omega)) (h.lea.row.below hb) enter_report2
  (fun x _ w'' hb'=>report2_any x sh ep le gl gs ge w'' ((hb'.cell (p:=⟨gl,0,none⟩) (World.block_lt_of_cell? w' _ hc1)).trans hc1) ((hb'.cell (p:=⟨gs,0,none⟩) (World.block_lt_of_cell? w' _ hc2)).trans hc2) ((hb'.cell (p:=⟨ge,0,none⟩) (World.block_lt_of_cell? w' _ hc3)).trans hc3)))
 subst hcl
 have HI:=Lib.hid hix
 have HFD:=Lib.hid hfd
 clear hfd
 obtain⟨hk,hxk⟩:=hx
 have hr:=h.lea.row
 have hl2':=h.lea.len
 obtain⟨b,o,ha2,hcs⟩:=LRow.range hr hk
 have HRG:=Lib.hid (fun w' hb=>hcs w' hb)
 rw[hxk]at HRG
 have HXK:=Lib.hid hxk
 have hi1:1≤ i1∧i1≤ 16:=by
  have h1:=HFIT.out _ (List.getElem_mem hk)
  rw[hxk]at h1
  exact⟨h1.1,h1.2.1⟩
 have HKL:=Lib.hid hk
 have hd:decide ((0:Int)≤(k:Int))=true:= decide_eq_true (by omega)
 have hkl:(k:Int)<(s.leas.length:Int):=by omega
 have hk900:(k:Int)<900:= by omega
 obtain⟨term,stamp,next,⟨a1,n1,c1⟩,⟨a2,n2,c2⟩,⟨a3,n3,c3⟩,⟨a4,n4,c4⟩⟩:=r
 have hn2:s.leas.length= n2:=h.lea.len
 subst hn2
 simp only at ha2
 subst ha2
 have HBX:Hid (∀w',Below (((((w.alloc (.cells #[.int .i64 term,.int .i64 stamp,.int .i64 next,.slice a1 n1 c1,.slice (some ⟨b,o,none⟩) s.leas.length c2,.slice a3 n3 c3,.slice a4 n4 c4] 27)).alloc (.cells #[.int .i64 sh] 3)).alloc (.cells #[.int .i64 ep] 3)).alloc (.cells #[.int .i64 le] 3)).alloc (.cells #[.int .i64 0,.int .i64 0,.int .i64 0,.slice none 0 0,.slice none 0 0,.slice none 0 0,.slice none 0 0] 27)).heap.size (((((w.alloc (.cells #[.int .i64 term,.int .i64 stamp,.int .i64 next,.slice a1 n1 c1,.slice (some ⟨b,o,none⟩) s.leas.length c2,.slice a3 n3 c3,.slice a4 n4 c4] 27)).alloc (.cells #[.int .i64 sh] 3)).alloc (.cells #[.int .i64 ep] 3)).alloc (.cells #[.int .i64 le] 3)).alloc (.cells #[.int .i64 0,.int .i64 0,.int .i64 0,.slice none 0 0,.slice none 0 0,.slice none 0 0,.slice none 0 0] 27)) w'→
  Box w' w.heap.size (Raw.cells ⟨term,stamp,next,⟨a1,n1,c1⟩,⟨some ⟨b,o,none⟩,s.leas.length,c2⟩,⟨a3,n3,c3⟩,⟨a4,n4,c4⟩⟩)∧Box w' (w.heap.size+1) [.int .i64 sh]∧Box w' (w.heap.size+1+ 1) [.int .i64 ep]∧Box w' (w.heap.size+1+ 1+1) [.int .i64 le]∧Box w' (w.heap.size+1+ 1+1+ 1) (Raw.cells ⟨0,0,0,⟨none,0,0⟩,⟨none,0,0⟩,⟨none,0,0⟩,⟨none,0,0⟩⟩)∧w.heap.size+ 5≤w'.heap.size):=
  fun w' hb=>⟨Box.of_alloc (mid_alloc' (mid_alloc' (mid_alloc' (mid_alloc' hb)))),Box.of_alloc1 (mid_alloc' (mid_alloc' (mid_alloc' hb))),Box.of_alloc2 (mid_alloc' (mid_alloc' hb)),Box.of_alloc3 (mid_alloc' hb),Box.of_alloc4 hb,by have:=hb.size;simp at this;omega⟩
 clear h hl1 hl2 hl3 hl4 hok hix hxk hr hcs hl2'
 go_enter_defers Tryz.func71,Tryz.ntmps71
 go_upto_region 17 with(first|(have hgq:=q10;clear hgq;refine wpList_store_box layTen rfl (.tmp 17) (.tmp 82) rfl ⟨fid,frate,fburst,fbucket,false⟩ rfl rfl rfl ?_;intro w11 hw11 ht11 hb11 hs11;obtain⟨r0,r1,r2,r3,r4⟩:=cellsTen0 hw11;have HT11:Hid (Box w11 w10.heap.size (Tenant.cells ⟨fid,frate,fburst,fbucket,false⟩)):=⟨hw11,ht11⟩;have HX11:=Lib.hid (HX10.out.below hb11 (by omega));have HC11:=Lib.hid (HC10.out.below hb11 (by omega));have HB11:=Lib.hid (HB10.out.trans (hb11.mono (by omega)));have q11:=hb11.size;have q11':w11.heap.size≤ w10.heap.size+1:= (by rw[hs11];exact Nat.le_refl _);have q11'':w10.heap.size+ 1≤w11.heap.size:= (by rw[hs11];exact Nat.le_refl _);clear hw11 ht11 hs11)|(go_at_call 77;((with_reducible refine(HPF.out i1 w9 HB9.out).mono ?_);rw[HFD.out];rintro e w10 ⟨rfl,hb10⟩;have HX10:=Lib.hid (HX9.out.below hb10 (by omega));have HC10:=Lib.hid (HC9.out.below hb10 (by omega));have HB10:=Lib.hid (HB9.out.trans (hb10.mono (by omega)));have q10:=hb10.size;clear k3 p1))|(refine wpList_store_field rfl (.tmp 75) (.tmp 74) rfl size1_slice.1 (w.heap.size+1+ 1+1+ 1) 4 _ (.slice (some ⟨gl,0,none⟩) fl.length y2) rfl rfl rfl rfl HX8.out (show 4<7 by decide) ?_;intro w9 hbx9 hw9;have HX9:Hid (Box w9 (w.heap.size+1+ 1+1+ 1) (Raw.cells ⟨t4,s4,n4,⟨x1,m1,y1⟩,⟨some ⟨gl,0,none⟩,fl.length,y2⟩,⟨x3,m3,y3⟩,⟨x4,m4,y4⟩⟩)):=hbx9;have HW9:=Lib.hid hw9;have q9:=Nat.le_of_eq hw9.size;have q9':=Nat.le_of_eq hw9.size.symm;have HS9:=Lib.hid (HS8.out.wrote hw9 (by omega));have HC9:=Lib.hid (HC8.out.wrote hw9 (by omega));have HB9:=Lib.hid (HB8.out.trans (hw9.below _ (by omega)));have k3:=HS9.out.cell (j:=3) rfl;have p1:=HC9.out.cell (j:=1) rfl;clear hbx9 hw9)|(go_at_call 125;(have hdl:=delete_at s.leas w3.heap.size gl s.leas.length y2 k w7 rfl HST7.out.is.lea.le HCM.out HM7.out HKL.out;(with_reducible refine hdl.mono ?_);clear hdl;generalize hfl:s.leas.eraseIdx k=fl;have HFL:=Lib.hid hfl;clear hfl;rintro e w8 ⟨rfl,hr8,ho8⟩;have HR8:=Lib.hid hr8;have HO8:=Lib.hid ho8;have q8:=ho8.size;have HX8:=Lib.hid (HX7.out.block (ho8.block _ (by omega) (by omega)));have HS8:=Lib.hid (HS7.out.block (ho8.block _ (by omega) (by omega)));have HC8:=Lib.hid (HC7.out.block (ho8.block _ (by omega) (by omega)));have HB8:=Lib.hid (HB7.out.trans (ho8.below (by omega) (by omega)));clear hr8 ho8 k34 p0 p1 p2 p3 p4 p5 p6))|(have hgq:=q6;clear hgq;refine wpList_store_box layLea rfl (.tmp 16) (.tmp 40) rfl ⟨i0,i1,i2,i3,i4,i5,i6⟩ rfl rfl rfl ?_;intro w7 hw7 ht7 hb7 hs7;obtain⟨p0,p1,p2,p3,p4,p5,p6⟩:=cellsLea0 hw7;have HC7:Hid (Box w7 w6.heap.size (Lease.cells ⟨i0,i1,i2,i3,i4,i5,i6⟩)):=⟨hw7,ht7⟩;have HB7:=Lib.hid (HB6.out.trans (hb7.mono (by omega)));have HX7:=Lib.hid (HX6.out.below hb7 (by omega));have HS7:=Lib.hid (HS6.out.below hb7 (by omega));have HST7:=Lib.hid (HST6.out.mid (Mid.below hb7 (Nat.le_refl _):Mid w3.heap.size w6.heap.size w6 w7) (Nat.le_refl _) (Nat.le_refl _));have HM7:=Lib.hid (HM6.out.block (hb7.block gl (by omega)));have q7:=hb7.size;have q7':w7.heap.size≤ w6.heap.size+1:= (by rw[hs7];exact Nat.le_refl _);have q7'':w6.heap.size+ 1≤w7.heap.size:= (by rw[hs7];exact Nat.le_refl _);have k34:=HX7.out.cell (j:=4) rfl;clear k4;clear hw7 ht7 hs7)|(refine wpList_load_lay layLea rfl (.tmp 39) rfl b (o+k* layLea.size) rfl ⟨i0,i1,i2,i3,i4,i5,i6⟩ (HRG.out w6 HB6.out) ?_)|(go_at_call 123;have hpl:=HPL.out (w.heap.size+1+ 1+1) (w.heap.size+1) (w.heap.size+1+ 1) w5 HB45.out HP5.out.1 HP5.out.2.1 HP5.out.2.2;((with_reducible refine hpl.mono ?_);clear hpl;rw[HI.out];rintro e w6 ⟨rfl,hb6⟩;have HB6:=Lib.hid (HB45.out.trans (hb6.mono (by omega)));have HX6:=Lib.hid (HX5.out.below hb6 (by omega));have HS6:=Lib.hid (HS5.out.below hb6 (by omega));have HST6:=Lib.hid (HST5.out.mid (Mid.below hb6 (Nat.le_refl _):Mid w3.heap.size w5.heap.size w5 w6) (Nat.le_refl _) (Nat.le_refl _));have HM6:=Lib.hid (HM5.out.block (hb6.block gl (by omega)));have q6:=hb6.size;clear k4;have k4:=HS6.out.cell (j:=4) rfl))|(refine wpList_store_whole laySt rfl (.tmp 12) (.tmp 25) rfl (w.heap.size+1+ 1+1+ 1) ⟨t4,s4,n4,⟨x1,m1,y1⟩,⟨some ⟨gl,0,none⟩,s.leas.length,y2⟩,⟨x3,m3,y3⟩,⟨x4,m4,y4⟩⟩ _ rfl rfl HX4.out.2.2.2.2.1 rfl ?_;intro w5 hbx5 hw5;have HX5:=Lib.hid hbx5;have q3:=HX3.out.2.2.2.2.2;have HST5:=Lib.hid (HST4.out.mid (Mid.wrote (Mid.refl w3.heap.size w4.heap.size w4) hw5 (.inl (by omega))) (Nat.le_refl _) (Nat.le_refl _));have HS5:=Lib.hid (HX4.out.1.wrote hw5 (by omega));have HP5:=Lib.hid (And.intro ((HX4.out.2.2.2.1.wrote hw5 (by omega)).cell (j:=0) rfl) (And.intro ((HX4.out.2.1.wrote hw5 (by omega)).cell (j:=0) rfl) ((HX4.out.2.2.1.wrote hw5 (by omega)).cell (j:=0) rfl)));have hb5:Below (w.heap.size+1+ 1+1+ 1) w4 w5:=hw5.below _ (Nat.le_refl _);have HB45:Hid (Below w.heap.size w w5):=Below.trans (show Below w.heap.size w w4 from belo) (hb5.mono (by omega));have q5:=Nat.le_of_eq hw5.size;have q5':=Nat.le_of_eq hw5.size.symm;have q34:=hb4.size;have k4:=HS5.out.cell (j:=4) rfl;have HM5:=Lib.hid (HM4.out.block (hw5.keep gl (by omega)));clear hbx5 hw5)|(go_at_call 57;((with_reducible refine(HCP.out _ belo).mono ?_);rintro e w4 ⟨⟨t4,s4,n4,⟨x1,m1,y1⟩,⟨x2,m2,y2⟩,⟨x3,m3,y3⟩,⟨x4,m4,y4⟩⟩,rfl,hst4,hb4⟩;have hown:=hst4.lea.own (show 0<s.leas.length from Nat.lt_of_le_of_lt (Nat.zero_le _) HKL.out);obtain⟨gl,hx2,hgl,hcm⟩:=own_head hown (by intro h1;have:=congrArg List.length h1;rw[layLea.length,List.length_nil,Nat.mul_eq_zero]at this;have:=layLea.pos;have:=HKL.out;omega);simp only at hx2;subst hx2;have hm2:s.leas.length= m2:=hst4.is.lea.len;subst hm2;have hgl4:gl< w4.heap.size:=hst4.lt gl 0 none rfl;have HCM:=Lib.hid hcm;have HM4:=Lib.hid (Mine.of_own (L:=layLea) hown);clear hown;have HST4:=Lib.hid hst4;have HX4:=Lib.hid (HBX.out w4 belo);clear hst4))|(go_at_call 43;((with_reducible refine(HCK.out _ belo).mono ?_);rw[HOK.out];rintro e w3 ⟨rfl,hb3⟩;have HX3:=Lib.hid (HBX.out w3 belo)))|(refine wpList_load_as laySt rfl (.tmp 6) rfl w.heap.size 0 rfl ⟨term,stamp,next,⟨a1,n1,c1⟩,⟨some ⟨b,o,none⟩,s.leas.length,c2⟩,⟨a3,n3,c3⟩,⟨a4,n4,c4⟩⟩ (.agg #[.int .i64 term,.int .i64 stamp,.int .i64 next,.slice a1 n1 c1,.slice (some ⟨b,o,none⟩) s.leas.length c2,.slice a3 n3 c3,.slice a4 n4 c4]) rfl (HBX.out _ belo).1.range ?_))
 have HFLL:Hid (fl.length≤s.leas.length):=by show _≤_;rw[←HFL.out];exact List.length_eraseIdx_le _ _
 have HFITD:=Lib.hid (HFIT.out.sub (m:=fl) (fun x hx=>List.mem_of_mem_eraseIdx (show x∈s.leas.eraseIdx k by rw[HFL.out];exact hx)))
 have HST11:=Lib.hid (drop_st (g6:=gl) HST7.out HR8.out HFLL.out HO8.out (.inl ⟨0,none,rfl⟩) ((((Mid.refl w3.heap.size w8.heap.size w8).wrote HW9.out (.inl (by omega))).next hb10 (by omega)).next hb11 (by omega)))
 have HOUT:Hid (Calls Tryz.prog 41 #[(.agg #[.int .i64 t4,.int .i64 s4,.int .i64 n4,.slice x1 m1 y1,.slice (some ⟨gl,0,none⟩) fl.length y2,.slice x3 m3 y3,.slice x4 m4 y4]),.int .i64 i1] w11.drew fun e w'=>e= .returned (.int .i64 (outL fl i1))∧Below w11.heap.size w11.drew w'):=
  out_any {s with leas:=fl} ⟨t4,s4,n4,⟨x1,m1,y1⟩,⟨some ⟨gl,0,none⟩,fl.length,y2⟩,⟨x3,m3,y3⟩,⟨x4,m4,y4⟩⟩ w3.heap.size i1 w11.drew (HST11.out.below (Below.refl _ _).drew) HFITD.out (Nat.le_trans HFLL.out HL.out.2.1) (wf_sm (by omega) (by omega))
 have HKP:Hid (∀w',Box w' ((w.heap.size+1+ 1+1+ 1)) (Raw.cells ⟨t4,s4,n4,⟨x1,m1,y1⟩,⟨some ⟨gl,0,none⟩,fl.length,y2⟩,⟨x3,m3,y3⟩,⟨x4,m4,y4⟩⟩)→Box w' w6.heap.size (Lease.cells ⟨i0,i1,i2,i3,i4,i5,i6⟩)→w'.cell? ⟨w10.heap.size,2,none⟩=some (.int .i64 fburst)→(w'.cell? ⟨w.heap.size+1+ 1+1+ 1,0,none⟩=some (.int .i64 t4)∧w'.cell? ⟨w.heap.size+1+ 1+1+ 1,1,none⟩=some (.int .i64 s4)∧w'.cell? ⟨w.heap.size+1+ 1+1+ 1,2,none⟩=some (.int .i64 n4)∧w'.cell? ⟨w.heap.size+1+ 1+1+ 1,3,none⟩=some (.slice x1 m1 y1)∧w'.cell? ⟨w.heap.size+1+ 1+1+ 1,4,none⟩=some (.slice (some ⟨gl,0,none⟩) fl.length y2)∧w'.cell? ⟨w.heap.size+1+ 1+1+ 1,5,none⟩=some (.slice x3 m3 y3)∧w'.cell? ⟨w.heap.size+1+ 1+1+ 1,6,none⟩=some (.slice x4 m4 y4)∧w'.cell? ⟨w6.heap.size,1,none⟩=some (.int .i64 i1)∧w'.cell? ⟨w6.heap.size,5,none⟩=some (.int .i64 i5)∧w'.cell? ⟨w10.heap.size,2,none⟩=some (.int .i64 fburst))):=fun w' b1 b2 b3=>⟨b1.cell (j:=0) rfl,b1.cell (j:=1) rfl,b1.cell (j:=2) rfl,b1.cell (j:=3) rfl,b1.cell (j:=4) rfl,b1.cell (j:=5) rfl,b1.cell (j:=6) rfl,b2.cell (j:=1) rfl,b2.cell (j:=5) rfl,b3⟩
 have HKD:Hid (w11.drew.cell? ⟨w.heap.size+1+ 1+1+ 1,0,none⟩=some (.int .i64 t4)∧w11.drew.cell? ⟨w.heap.size+1+ 1+1+ 1,1,none⟩=some (.int .i64 s4)∧w11.drew.cell? ⟨w.heap.size+1+ 1+1+ 1,2,none⟩=some (.int .i64 n4)∧w11.drew.cell? ⟨w.heap.size+1+ 1+1+ 1,3,none⟩=some (.slice x1 m1 y1)∧w11.drew.cell? ⟨w.heap.size+1+ 1+1+ 1,4,none⟩=some (.slice (some ⟨gl,0,none⟩) fl.length y2)∧w11.drew.cell? ⟨w.heap.size+1+ 1+1+ 1,5,none⟩=some (.slice x3 m3 y3)∧w11.drew.cell? ⟨w.heap.size+1+ 1+1+ 1,6,none⟩=some (.slice x4 m4 y4)∧w11.drew.cell? ⟨w6.heap.size,1,none⟩=some (.int .i64 i1)∧w11.drew.cell? ⟨w6.heap.size,5,none⟩=some (.int .i64 i5)∧w11.drew.cell? ⟨w10.heap.size,2,none⟩=some (.int .i64 fburst)):=HKP.out _ HX11.out.drew HC11.out.drew (HT11.out.drew.cell (j:=2) rfl)
 have hwr:IntKind.i64.wrap (i5-sp)=i5- sp:=IntWalk.i64_in _ (by omega)
 clear r0 r1 r2 r4
 apply cut_here
 ·intro CUT1
  refine wp_region_noPanic ?_
  refine wp_region_held_drew (S:=(fun w'=>(w'.cell? ⟨w.heap.size+1+ 1+1+ 1,0,none⟩=some (.int .i64 t4)∧w'.cell? ⟨w.heap.size+1+ 1+1+ 1,1,none⟩=some (.int .i64 s4)∧w'.cell? ⟨w.heap.size+1+ 1+1+ 1,2,none⟩=some (.int .i64 n4)∧w'.cell? ⟨w.heap.size+1+ 1+1+ 1,3,none⟩=some (.slice x1 m1 y1)∧w'.cell? ⟨w.heap.size+1+ 1+1+ 1,4,none⟩=some (.slice (some ⟨gl,0,none⟩) fl.length y2)∧w'.cell? ⟨w.heap.size+1+ 1+1+ 1,5,none⟩=some (.slice x3 m3 y3)∧w'.cell? ⟨w.heap.size+1+ 1+1+ 1,6,none⟩=some (.slice x4 m4 y4)∧w'.cell? ⟨w6.heap.size,1,none⟩=some (.int .i64 i1)∧w'.cell? ⟨w6.heap.size,5,none⟩=some (.int .i64 i5)∧w'.cell? ⟨w10.heap.size,2,none⟩=some (.int .i64 fburst)))) (by kernel_rfl) HKD.out (fun hHeld=> ?_)
  refine wpAnyH_take (i:=0) (oi:=_) (v:= ?v0_1) rfl (by kernel_rfl) (by kernel_rfl) (by kernel_rfl) (fun _ _ _ h=>h) (Or.inl ⟨by rfl,?hy0_1⟩) (by assumption) ?rest0_1
  case hy0_1=>
   intro w hSw
   (try dsimp only at hSw)
   go_simp
   rfl
  case' rest0_1=>try simp only[Act.put,List.setIfInBounds_toArray,List.set_cons_zero,List.set_cons_succ,List.getElem_toArray,List.getElem_cons_zero,List.getElem_cons_succ]
  refine wpAnyH_take (i:=2) (oi:=_) (v:= ?v2_2) rfl (by kernel_rfl) (by kernel_rfl) (by kernel_rfl) (fun _ _ _ h=>h) (Or.inl ⟨by rfl,?hy2_2⟩) (by assumption) ?rest2_2
  case hy2_2=>
   intro w hSw
   (try dsimp only at hSw)
   go_simp
   rfl
  case' rest2_2=>try simp only[Act.put,List.setIfInBounds_toArray,List.set_cons_zero,List.set_cons_succ,List.getElem_toArray,List.getElem_cons_zero,List.getElem_cons_succ]
  refine wpAnyH_take (i:=3) (oi:=_) (v:= ?v3_3) rfl (by kernel_rfl) (by kernel_rfl) (by kernel_rfl) (fun _ _ _ h=>h) (Or.inl ⟨by rfl,?hy3_3⟩) (by assumption) ?rest3_3
  case hy3_3=>
   intro w hSw
   (try dsimp only at hSw)
   go_simp
   rfl
  case' rest3_3=>try simp only[Act.put,List.setIfInBounds_toArray,List.set_cons_zero,List.set_cons_succ,List.getElem_toArray,List.getElem_cons_zero,List.getElem_cons_succ]
  refine wpAnyH_take (i:=4) (oi:=_) (v:= ?v4_4) rfl (by kernel_rfl) (by kernel_rfl) (by kernel_rfl) (fun _ _ _ h=>h) (Or.inl ⟨by rfl,?hy4_4⟩) (by assumption) ?rest4_4
  case hy4_4=>
   intro w hSw
   (try dsimp only at hSw)
   go_simp
   rfl
  case' rest4_4=>try simp only[Act.put,List.setIfInBounds_toArray,List.set_cons_zero,List.set_cons_succ,List.getElem_toArray,List.getElem_cons_zero,List.getElem_cons_succ]
  refine wpAnyH_take (i:=5) (oi:=_) (v:= ?v5_5) rfl (by kernel_rfl) (by kernel_rfl) (by kernel_rfl) (fun _ _ _ h=>h) (Or.inl ⟨by rfl,?hy5_5⟩) (by assumption) ?rest5_5
  case hy5_5=>
   intro w hSw
   (try dsimp only at hSw)
   go_simp
   rfl
  case' rest5_5=>try simp only[Act.put,List.setIfInBounds_toArray,List.set_cons_zero,List.set_cons_succ,List.getElem_toArray,List.getElem_cons_zero,List.getElem_cons_succ]
  refine wpAnyH_take (i:=6) (oi:=_) (v:= ?v6_6) rfl (by kernel_rfl) (by kernel_rfl) (by kernel_rfl) (fun _ _ _ h=>h) (Or.inl ⟨by rfl,?hy6_6⟩) (by assumption) ?rest6_6
  case hy6_6=>
   intro w hSw
   (try dsimp only at hSw)
   go_simp
   rfl
  case' rest6_6=>try simp only[Act.put,List.setIfInBounds_toArray,List.set_cons_zero,List.set_cons_succ,List.getElem_toArray,List.getElem_cons_zero,List.getElem_cons_succ]
  refine wpAnyH_take (i:=8) (oi:=_) (v:= ?v8_7) rfl (by kernel_rfl) (by kernel_rfl) (by kernel_rfl) (fun _ _ _ h=>h) (Or.inl ⟨by rfl,?hy8_7⟩) (by assumption) ?rest8_7
  case hy8_7=>
   intro w hSw
   (try dsimp only at hSw)
   go_simp
   rfl
  case' rest8_7=>try simp only[Act.put,List.setIfInBounds_toArray,List.set_cons_zero,List.set_cons_succ,List.getElem_toArray,List.getElem_cons_zero,List.getElem_cons_succ]
  refine wpAnyH_take (i:=9) (oi:=_) (v:= ?v9_8) rfl (by kernel_rfl) (by kernel_rfl) (by kernel_rfl) (fun _ _ _ h=>h) (Or.inl ⟨by rfl,?hy9_8⟩) (by assumption) ?rest9_8
  case hy9_8=>
   intro w hSw
   (try dsimp only at hSw)
   go_simp
   rfl
  case' rest9_8=>try simp only[Act.put,List.setIfInBounds_toArray,List.set_cons_zero,List.set_cons_succ,List.getElem_toArray,List.getElem_cons_zero,List.getElem_cons_succ]
  refine wpAnyH_take (i:=10) (oi:=_) (v:= ?v10_9) rfl (by kernel_rfl) (by kernel_rfl) (by kernel_rfl) (fun _ _ _ h=>h) (Or.inl ⟨by rfl,?hy10_9⟩) (by assumption) ?rest10_9
  case hy10_9=>
   intro w hSw
   (try dsimp only at hSw)
   go_simp
   rfl
  case' rest10_9=>try simp only[Act.put,List.setIfInBounds_toArray,List.set_cons_zero,List.set_cons_succ,List.getElem_toArray,List.getElem_cons_zero,List.getElem_cons_succ]
  refine wpAnyH_take (i:=11) (oi:=_) (v:= ?v11_10) rfl (by kernel_rfl) (by kernel_rfl) (by kernel_rfl) (fun _ _ _ h=>h) (Or.inl ⟨by rfl,?hy11_10⟩) (by assumption) ?rest11_10
  case hy11_10=>
   intro w hSw
   (try dsimp only at hSw)
   go_simp
   rfl
  case' rest11_10=>try simp only[Act.put,List.setIfInBounds_toArray,List.set_cons_zero,List.set_cons_succ,List.getElem_toArray,List.getElem_cons_zero,List.getElem_cons_succ]
  refine wpAnyH_ready (rs:=[1,7]) (by kernel_rfl) (by simp) ?_
  refine AllReadyH.cons (o:=_) rfl (fun K hK=> ?_) (AllReadyH.cons (o:=_) rfl (fun K hK=> ?_) AllReadyH.nil)
  ·have r3c:=HT11.out.drew.cell (j:=3) rfl
   go_simp
   clear r3c hHeld
   refine hK.out _ _ HKD.out (fun hHeld=> ?_)
   clear hK K
   try simp only[Act.put,List.setIfInBounds_toArray,List.set_cons_zero,List.set_cons_succ,List.getElem_toArray,List.getElem_cons_zero,List.getElem_cons_succ]
   refine wpAnyH_ready (rs:=[7]) (by kernel_rfl) (by simp) ?_
   refine AllReadyH.cons (o:=_) rfl (fun K hK=> ?_) AllReadyH.nil
   go_simp
   go_at_call 41
   with_reducible refine HOUT.out.mono ?_
   rintro e w12 ⟨rfl,hb12a⟩
   have hb12:Below w11.heap.size w11 w12:=⟨hb12a.os,hb12a.tape,hb12a.output,hb12a.size,hb12a.block⟩
   clear hb12a hHeld
   have q12:=hb12.size
   have HX12:=Lib.hid (HX11.out.below hb12 (by omega))
   have HC12:=Lib.hid (HC11.out.below hb12 (by omega))
   have HT12:=Lib.hid (HT11.out.below hb12 (by omega))
   refine hK.out _ _ (HKP.out _ HX12.out HC12.out (HT12.out.cell (j:=2) rfl)) (fun hHeld=> ?_)
   clear hK K
   try simp only[Act.put,List.setIfInBounds_toArray,List.set_cons_zero,List.set_cons_succ,List.getElem_toArray,List.getElem_cons_zero,List.getElem_cons_succ]
   refine wpAnyH_ready (rs:=[12]) (by kernel_rfl) (by simp) ?_
   refine AllReadyH.cons (o:=_) rfl (fun K hK=> ?_) AllReadyH.nil
   go_simp
   go_at_call 126
   with_reducible refine(back_any _ _ _ _ _).mono ?_
   rintro e w13 ⟨rfl,hb13⟩
   clear hHeld
   have q13:=hb13.size
   have HX13:=Lib.hid (HX12.out.below hb13 (by omega))
   have HC13:=Lib.hid (HC12.out.below hb13 (by omega))
   have HT13:=Lib.hid (HT12.out.below hb13 (by omega))
   refine hK.out _ _ (HKP.out _ HX13.out HC13.out (HT13.out.cell (j:=2) rfl)) (fun hHeld=> ?_)
   clear hK K
   try simp only[Act.put,List.setIfInBounds_toArray,List.set_cons_zero,List.set_cons_succ,List.getElem_toArray,List.getElem_cons_zero,List.getElem_cons_succ]
   refine wpAnyH_take (i:=13) (oi:=_) (v:= ?v13_11) rfl (by kernel_rfl) (by kernel_rfl) (by kernel_rfl) (fun _ _ _ h=>h) (Or.inl ⟨by rfl,?hy13_11⟩) (by assumption) ?rest13_11
   case hy13_11=>
    intro w hSw
    (try dsimp only at hSw)
    go_simp
    rfl
   case' rest13_11=>try simp only[Act.put,List.setIfInBounds_toArray,List.set_cons_zero,List.set_cons_succ,List.getElem_toArray,List.getElem_cons_zero,List.getElem_cons_succ]
   refine wpAnyH_ready (rs:=[14]) (by kernel_rfl) (by simp) ?_
   refine AllReadyH.cons (o:=_) rfl (fun K hK=> ?_) AllReadyH.nil
   have r3d:=HT13.out.cell (j:=3) rfl
   have hzz:=HT13.out.froz (j:=3) (show 3<5 by decide)
   go_simp
   clear r3d hzz hHeld
   refine hK.out _ _ (HKP.out _ (HX13.out.wrote (wrote_setCell _ _ _ _) (by omega)) (HC13.out.wrote (wrote_setCell _ _ _ _) (by omega)) ((HT13.out.set (i:=3) (show 3<5 by decide) _).cell (j:=2) rfl)) (fun hHeld=> ?_)
   clear hK K
   try simp only[Act.put,List.setIfInBounds_toArray,List.set_cons_zero,List.set_cons_succ,List.getElem_toArray,List.getElem_cons_zero,List.getElem_cons_succ]
   refine wpAnyH_done (by kernel_rfl) ?_ _
   refine NoPanic.normal ?_
   obtain⟨w14,hw14⟩:∃x,x=w13.setCell ⟨w10.heap.size,3,none⟩ (.int .i64 (backI fbucket fburst (outL fl i1) (i5-sp))):=⟨_,rfl⟩
   rw[←hw14]
   have W14:=wrote_setCell w13 w10.heap.size 3 (.int .i64 (backI fbucket fburst (outL fl i1) (i5-sp)))
   rw[←hw14]at W14
   have X14:=Lib.hid (HX13.out.wrote W14 (by omega))
   have T14:Hid (Box w14 w10.heap.size (Tenant.cells ⟨fid,frate,fburst,(backI fbucket fburst (outL fl i1) (i5-sp)),false⟩)):=by show Box _ _ _;rw[hw14];exact HT13.out.set (i:=3) (show 3<5 by decide) _
   have M14:Hid (Mid w3.heap.size w8.heap.size w8 w14):=((((((Mid.refl w3.heap.size w8.heap.size w8).wrote HW9.out (.inl (by omega))).next hb10 (by omega)).next hb11 (by omega)).next hb12 (by omega)).next hb13 (by omega)).wrote W14 (.inr (by omega))
   have B14:Hid (Below w.heap.size w w14):=((HB11.out.trans (hb12.mono (by omega))).trans (hb13.mono (by omega))).trans (W14.below _ (by omega))
   have S14:Hid (w11.heap.size≤w14.heap.size):=Nat.le_trans (Nat.le_trans hb12.size hb13.size) (Nat.le_of_eq W14.size.symm)
   clear hHeld hw14 W14 HT13 HC13 HX13 q13 hb13 HT12 HC12 HX12 q12 hb12
   clear w13 w12
   revert S14
   revert B14
   revert M14
   revert T14
   revert X14
   revert w14
   exact CUT1.out
  ·go_simp
   go_at_call 41
   with_reducible refine HOUT.out.mono ?_
   rintro e w12 ⟨rfl,hb12a⟩
   have hb12:Below w11.heap.size w11 w12:=⟨hb12a.os,hb12a.tape,hb12a.output,hb12a.size,hb12a.block⟩
   clear hb12a hHeld
   have q12:=hb12.size
   have HX12:=Lib.hid (HX11.out.below hb12 (by omega))
   have HC12:=Lib.hid (HC11.out.below hb12 (by omega))
   have HT12:=Lib.hid (HT11.out.below hb12 (by omega))
   refine hK.out _ _ (HKP.out _ HX12.out HC12.out (HT12.out.cell (j:=2) rfl)) (fun hHeld=> ?_)
   clear hK K
   try simp only[Act.put,List.setIfInBounds_toArray,List.set_cons_zero,List.set_cons_succ,List.getElem_toArray,List.getElem_cons_zero,List.getElem_cons_succ]
   refine wpAnyH_ready (rs:=[1]) (by kernel_rfl) (by simp) ?_
   refine AllReadyH.cons (o:=_) rfl (fun K hK=> ?_) AllReadyH.nil
   have r3c:=HT12.out.cell (j:=3) rfl
   go_simp
   clear r3c hHeld
   refine hK.out _ _ (HKP.out _ HX12.out HC12.out (HT12.out.cell (j:=2) rfl)) (fun hHeld=> ?_)
   clear hK K
   try simp only[Act.put,List.setIfInBounds_toArray,List.set_cons_zero,List.set_cons_succ,List.getElem_toArray,List.getElem_cons_zero,List.getElem_cons_succ]
   refine wpAnyH_ready (rs:=[12]) (by kernel_rfl) (by simp) ?_
   refine AllReadyH.cons (o:=_) rfl (fun K hK=> ?_) AllReadyH.nil
   go_simp
   go_at_call 126
   with_reducible refine(back_any _ _ _ _ _).mono ?_
   rintro e w13 ⟨rfl,hb13⟩
   clear hHeld
   have q13:=hb13.size
   have HX13:=Lib.hid (HX12.out.below hb13 (by omega))
   have HC13:=Lib.hid (HC12.out.below hb13 (by omega))
   have HT13:=Lib.hid (HT12.out.below hb13 (by omega))
   refine hK.out _ _ (HKP.out _ HX13.out HC13.out (HT13.out.cell (j:=2) rfl)) (fun hHeld=> ?_)
   clear hK K
   try simp only[Act.put,List.setIfInBounds_toArray,List.set_cons_zero,List.set_cons_succ,List.getElem_toArray,List.getElem_cons_zero,List.getElem_cons_succ]
   refine wpAnyH_take (i:=13) (oi:=_) (v:= ?v13_12) rfl (by kernel_rfl) (by kernel_rfl) (by kernel_rfl) (fun _ _ _ h=>h) (Or.inl ⟨by rfl,?hy13_12⟩) (by assumption) ?rest13_12
   case hy13_12=>
    intro w hSw
    (try dsimp only at hSw)
    go_simp
    rfl
   case' rest13_12=>try simp only[Act.put,List.setIfInBounds_toArray,List.set_cons_zero,List.set_cons_succ,List.getElem_toArray,List.getElem_cons_zero,List.getElem_cons_succ]
   refine wpAnyH_ready (rs:=[14]) (by kernel_rfl) (by simp) ?_
   refine AllReadyH.cons (o:=_) rfl (fun K hK=> ?_) AllReadyH.nil
   have r3d:=HT13.out.cell (j:=3) rfl
   have hzz:=HT13.out.froz (j:=3) (show 3<5 by decide)
   go_simp
   clear r3d hzz hHeld
   refine hK.out _ _ (HKP.out _ (HX13.out.wrote (wrote_setCell _ _ _ _) (by omega)) (HC13.out.wrote (wrote_setCell _ _ _ _) (by omega)) ((HT13.out.set (i:=3) (show 3<5 by decide) _).cell (j:=2) rfl)) (fun hHeld=> ?_)
   clear hK K
   try simp only[Act.put,List.setIfInBounds_toArray,List.set_cons_zero,List.set_cons_succ,List.getElem_toArray,List.getElem_cons_zero,List.getElem_cons_succ]
   refine wpAnyH_done (by kernel_rfl) ?_ _
   refine NoPanic.normal ?_
   obtain⟨w14,hw14⟩:∃x,x=w13.setCell ⟨w10.heap.size,3,none⟩ (.int .i64 (backI fbucket fburst (outL fl i1) (i5-sp))):=⟨_,rfl⟩
   rw[←hw14]
   have W14:=wrote_setCell w13 w10.heap.size 3 (.int .i64 (backI fbucket fburst (outL fl i1) (i5-sp)))
   rw[←hw14]at W14
   have X14:=Lib.hid (HX13.out.wrote W14 (by omega))
   have T14:Hid (Box w14 w10.heap.size (Tenant.cells ⟨fid,frate,fburst,(backI fbucket fburst (outL fl i1) (i5-sp)),false⟩)):=by show Box _ _ _;rw[hw14];exact HT13.out.set (i:=3) (show 3<5 by decide) _
   have M14:Hid (Mid w3.heap.size w8.heap.size w8 w14):=((((((Mid.refl w3.heap.size w8.heap.size w8).wrote HW9.out (.inl (by omega))).next hb10 (by omega)).next hb11 (by omega)).next hb12 (by omega)).next hb13 (by omega)).wrote W14 (.inr (by omega))
   have B14:Hid (Below w.heap.size w w14):=((HB11.out.trans (hb12.mono (by omega))).trans (hb13.mono (by omega))).trans (W14.below _ (by omega))
   have S14:Hid (w11.heap.size≤w14.heap.size):=Nat.le_trans (Nat.le_trans hb12.size hb13.size) (Nat.le_of_eq W14.size.symm)
   clear hHeld hw14 W14 HT13 HC13 HX13 q13 hb13 HT12 HC12 HX12 q12 hb12
   clear w13 w12
   revert S14
   revert B14
   revert M14
   revert T14
   revert X14
   revert w14
   exact CUT1.out
 intro w14 HX14 HT14 HM14 HB14 HS14
 clear HKD HKP HOUT hwr r3
 have q14:=HS14.out
 have HST14:=Lib.hid (drop_st (g6:=gl) HST7.out HR8.out HFLL.out HO8.out (.inl ⟨0,none,rfl⟩) HM14.out)
 have k3:=HX14.out.cell (j:=3) rfl
 obtain⟨ss,HSS⟩:∃ss,Hid (setS s.tens ⟨fid,frate,fburst,(backI fbucket fburst (outL fl i1) (i5-sp)),false⟩=ss):=⟨_,rfl⟩
 have HSL2:=Lib.hid (show ss.1.length≤s.tens.length+ 1 by rw[←HSS.out];exact setS_len _ _)
 go_wp2_with(first|(refine wpList_store_whole laySt rfl (.tmp 12) (.tmp 112) rfl (w.heap.size+1+ 1+1+ 1) ⟨t4,s4,n4,⟨xa,ss.1.length,ya⟩,⟨some ⟨gl,0,none⟩,fl.length,y2⟩,⟨x3,m3,y3⟩,⟨x4,m4,y4⟩⟩ _ rfl rfl HX16.out rfl ?_;intro w20 hbx20 hw20;have HX20:=Lib.hid hbx20;have HW20:=Lib.hid hw20;have q20:=Nat.le_of_eq hw20.size;have q20':=Nat.le_of_eq hw20.size.symm;clear hbx20 hw20)|(refine wpList_load_as laySt rfl (.tmp 12) rfl (w.heap.size+1+ 1+1+ 1) 0 rfl ⟨t4,s4,n4,⟨xa,ss.1.length,ya⟩,⟨some ⟨gl,0,none⟩,fl.length,y2⟩,⟨x3,m3,y3⟩,⟨x4,m4,y4⟩⟩ (.agg #[.int .i64 t4,.int .i64 s4,.int .i64 n4,.slice xa ss.1.length ya,.slice (some ⟨gl,0,none⟩) fl.length y2,.slice x3 m3 y3,.slice x4 m4 y4]) rfl HX16.out.range ?_)|(refine wpList_store_field rfl (.tmp 111) (.tmp 109) rfl size1_slice.2.1 ((w.heap.size+1+ 1+1+ 1)) 3 _ (.slice xa ss.1.length ya) rfl rfl rfl rfl HX15.out (show 3<7 by decide) ?_;intro w16 hbx16 hw16;have HX16:Hid (Box w16 ((w.heap.size+1+ 1+1+ 1)) (Raw.cells ⟨t4,s4,n4,⟨xa,ss.1.length,ya⟩,⟨some ⟨gl,0,none⟩,fl.length,y2⟩,⟨x3,m3,y3⟩,⟨x4,m4,y4⟩⟩)):=hbx16;have HW16:=Lib.hid hw16;have q16:=Nat.le_of_eq hw16.size;have q16':=Nat.le_of_eq hw16.size.symm;have HB16:=Lib.hid (HB15.out.trans (hw16.below _ (by omega)));clear hbx16 hw16)|(go_at_call 127;have hse:=set_any s.tens x1 m1 y1 ⟨fid,frate,fburst,(backI fbucket fburst (outL fl i1) (i5-sp)),false⟩ w14 HST14.out.ten.len HL.out.1 HST14.out.ten.nil HST14.out.ten.le HST14.out.trow;(with_reducible refine hse.mono ?_);clear hse;rw[HSS.out];rintro e w15 ⟨xa,ya,rfl,hle15,hnil15,hnear15,hrow15,hb15⟩;have K15:=Lib.hid (And.intro hle15 (And.intro hnil15 (And.intro hnear15 hrow15)));clear hle15 hnil15 hnear15 hrow15;have HX15:=Lib.hid (HX14.out.next (show 0<7 by decide) hb15);have HB15:=Lib.hid (HB14.out.trans (hb15.mono (by omega)));have q15:=hb15.size;clear k3)|(refine wpList_load_as layTen rfl (.tmp 17) rfl w10.heap.size 0 rfl ⟨fid,frate,fburst,(backI fbucket fburst (outL fl i1) (i5-sp)),false⟩ (.agg #[.int .i64 fid,.int .i64 frate,.int .i64 fburst,.int .i64 (backI fbucket fburst (outL fl i1) (i5-sp)),.bool false]) rfl HT14.out.range ?_))
 have S20:StAt w20 w3.heap.size ⟨t4,s4,n4,⟨xa,ss.1.length,ya⟩,⟨some ⟨gl,0,none⟩,fl.length,y2⟩,⟨x3,m3,y3⟩,⟨x4,m4,y4⟩⟩ {s with leas:=fl,tens:=ss.1}:=put_st HST14.out (by omega) hb15 K15.out.1 K15.out.2.1 K15.out.2.2.1 K15.out.2.2.2 (((Mid.refl w3.heap.size w15.heap.size w15).wrote HW16.out (.inl (by omega))).wrote HW20.out (.inl (by omega)))
 rw[HFL.out,HSS.out]
 have b20:Below w.heap.size w w20:=HB16.out.trans (HW20.out.below _ (by omega))
 refine door_only (report1_d w3.heap.size (w.heap.size+1+ 1+1+ 1) {s with leas:=fl,tens:=ss.1} .returning w20 (sweep_st {s with leas:=fl,tens:=ss.1} _ w3.heap.size (w.heap.size+1+ 1+1+ 1) w20 HX20.out S20 (by omega) (by omega) HFITD.out (show ss.1.length≤900 by have:=HSL2.out;omega) (Nat.le_trans HFLL.out HL.out.2.1))) (by simp[go_sem]) ?_
 intro w' r9 hbxr hstr hor
 exact report_outN (g:=(w.heap.size+1+ 1+1+ 1)) (r9:=r9) (e:=0) rfl rfl hbxr (hstr.mono (by omega)) rfl (b20.trans (hor.below (by omega) (by omega)))
end Go.Proofs.YtfdmhpohfjbpfaaGreat
