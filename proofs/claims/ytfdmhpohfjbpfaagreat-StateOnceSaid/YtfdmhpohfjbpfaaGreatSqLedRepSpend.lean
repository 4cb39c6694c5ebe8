import Derived.Test.YtfdmhpohfjbpfaaGreatSq17
set_option linter.unusedVariables false
set_option linter.unusedSimpArgs false
namespace Go.Proofs.YtfdmhpohfjbpfaaGreat
open Go.ChangeShapes Go.WideShapes Go.ChangeAt Go.RowKit
set_option maxRecDepth 100000
set_option maxHeartbeats 16000000 in
theorem report_spend (s:St) (r:Raw) (B:Nat) (sh ep le sp:Int) (cl:Bool) (w:World) (h:StAt w B r s) (hl1':s.tens.length≤ 800) (hl2:s.leas.length≤ 900) (hl3:s.sess.length≤ 900) (hl4:s.dsks.length≤ 900)
 (i0 i1 i2 i3 i4 i5 i6:Int) (k:Nat) (hok:stOk s=true) (hix:idxL (leaIs sh ep le) s.leas=k) (hx:∃hk: k<s.leas.length,s.leas[k]=⟨i0,i1,i2,i3,i4,i5,i6⟩) (hr0:0≤ i6) (hr1:i6≤ i5) (hr2:i5≤ 1000000) (hcl:cl= false) (hc0:i6≤ sp) (hc:sp< i5) (hfit2:Fits (s.leas.set k ⟨i0,i1,i2,i3,i4,i5,sp⟩)):
 Calls Tryz.prog 71 #[r.agg,.int .i64 sh,.int .i64 ep,.int .i64 le,.int .i64 sp,.bool cl] w (RetSEN w (sweptS {s with leas:=s.leas.set k ⟨i0,i1,i2,i3,i4,i5,sp⟩},0)):=by
 have hl1:s.tens.length≤ 900:=by omega
 have hmf:∀(fn:Fn) (first cap:Array Value) (w:World),(Instr.makeFunc fn first cap).run Tryz.prog w= .ok (.func fn first cap) w:=fun _ _ _ _=>rfl
 have HS:=Lib.hid h
 have HL:=Lib.hid (And.intro hl1 (And.intro hl2 (And.intro hl3 hl4)))
 have HCK:=Lib.hid (fun w' (hb:Below w.heap.size w w')=>check_st s r B w' (h.below hb) hl1 hl2)
 have HOK:=Lib.hid hok
 have HFIT:=Lib.hid (stOk_ten hok).2
 have HCP:=Lib.hid (fun w' (hb:Below w.heap.size w w')=>copied_st s r B w' (h.below hb) hl1 hl2 hl3 hl4)
 have HPF:=Lib.hid (fun te w' (hb:Below w.heap.size w w')=>pfind_any s.tens r.ten.a r.ten.n r.ten.c te w' h.ten.len (le_maxLen (by omega)) (Row.below h.trow hb))
 have HPL:=Lib.hid (fun gl gs ge w' (hb:Below w.heap.size w w') (hc1:w'.cell? ⟨gl,0,none⟩=some (.int .i64 le)) (hc2:w'.cell? ⟨gs,0,none⟩=some (.int .i64 sh)) (hc3:w'.cell? ⟨ge,0,none⟩=some (.int .i64 ep))=>place_lea s.leas r.lea.a r.lea.n r.lea.c 124 #[.pointer (some ⟨gl,0,none⟩),.pointer (some ⟨gs,0,none⟩),.pointer (some ⟨ge,0,none⟩)] (leaIs sh ep le) w' h.lea.len (le_maxLen (by have:=h.lea.len;omega)) (h.lea.row.below hb) enter_report2
  (fun x _ w'' hb'=>report2_any x sh ep le gl gs ge w'' ((hb'.cell (p:=⟨gl,0,none⟩) (World.block_lt_of_cell? w' _ hc1)).trans hc1) ((hb'.cell (p:=⟨gs,0,none⟩) (World.block_lt_of_cell? w' _ hc2)).trans hc2) ((hb'.cell (p:=⟨ge,0,none⟩) (World.block_lt_of_cell? w' _ hc3)).trans hc3)))
 have HI:=Lib.hid hix
 have HFIT2:=Lib.hid hfit2
 clear hfit2
 subst hcl
 obtain⟨hk,hxk⟩:=hx
 have hr:=h.lea.row
 have hl2':=h.lea.len
 obtain⟨b,o,ha2,hcs⟩:=LRow.range hr hk
 have HRG:=Lib.hid (fun w' hb=>hcs w' hb)
 rw[hxk]at HRG
 have HXK:=Lib.hid hxk
 have HKL:=Lib.hid hk
 have hd:decide ((0:Int)≤(k:Int))=true:= decide_eq_true (by omega)
 have hkl:(k:Int)<(s.leas.length:Int):=by omega
 have hk900:(k:Int)<900:= by omega
 obtain⟨term,stamp,next,⟨a1,n1,c1⟩,⟨a2,n2,c2⟩,⟨a3,n3,c3⟩,⟨a4,n4,c4⟩⟩:=r
 have hn2:s.leas.length= n2:=h.lea.len
 subst hn2
 simp only at ha2
 subst ha2
 have HBX:Hid (∀w',Below (((((w.alloc (.cells #[.int .i64 term,.int .i64 stamp,.int .i64 next,.slice a1 n1 c1,.slice (some ⟨b,o,none⟩) s.leas.length c2,.slice a3 n3 c3,.slice a4 n4 c4] 27)).alloc (.cells #[.int .i64 sh] 3)).alloc (.cells #[.int .i64 ep] 3)).alloc (.cells #[.int .i64 le] 3)).alloc (.cells #[.int .i64 0,.int .i64 0,.int .i64 0,.slice none 0 0,.slice none 0 0,.slice none 0 0,.slice none 0 0] 27)).heap.size (((((w.alloc (.cells #[.int .i64 term,.int .i64 stamp,.int .i64 next,.slice a1 n1 c1,.slice (some ⟨b,o,none⟩) s.leas.length c2,.slice a3 n3 c3,.slice a4 n4 c4] 27)).alloc (.cells #[.int .i64 sh] 3)).alloc (.cells #[.int .i64 ep] 3)).alloc (.cells #[.int .i64 le] 3)).alloc (.cells #[.int .i64 0,.int .i64 0,.int .i64 0,.slice none 0 0,.slice none 0 0,.slice none 0 0,.slice none 0 0] 27)) w'→
  Box w' w.heap.size (Raw.cells ⟨term,stamp,next,⟨a1,n1,c1⟩,⟨some ⟨b,o,none⟩,s.leas.length,c2⟩,⟨a3,n3,c3⟩,⟨a4,n4,c4⟩⟩)∧Box w' (w.heap.size+1) [.int .i64 sh]∧Box w' (w.heap.size+1+ 1) [.int .i64 ep]∧Box w' (w.heap.size+1+ 1+1) [.int .i64 le]∧Box w' (w.heap.size+1+ 1+1+ 1) (Raw.cells ⟨0,0,0,⟨none,0,0⟩,⟨none,0,0⟩,⟨none,0,0⟩,⟨none,0,0⟩⟩)∧w.heap.size+ 5≤w'.heap.size):=
  fun w' hb=>⟨Box.of_alloc (mid_alloc' (mid_alloc' (mid_alloc' (mid_alloc' hb)))),Box.of_alloc1 (mid_alloc' (mid_alloc' (mid_alloc' hb))),Box.of_alloc2 (mid_alloc' (mid_alloc' hb)),Box.of_alloc3 (mid_alloc' hb),Box.of_alloc4 hb,by have:=hb.size;simp at this;omega⟩
 clear h hl1 hl2 hl3 hl4 hok hix hxk hr hcs hl2'
 go_enter_defers Tryz.func71,Tryz.ntmps71
 go_wp2_with(first|(refine wpList_store_whole laySt rfl (.tmp 12) (.tmp 68) rfl (w.heap.size+1+ 1+1+ 1) ⟨t4,s4,n4,⟨x1,m1,y1⟩,⟨some ⟨gl,0,none⟩,s.leas.length,y2⟩,⟨x3,m3,y3⟩,⟨x4,m4,y4⟩⟩ _ rfl rfl HX8.out rfl ?_;intro w20 hbx20 hw20;have HX20:=Lib.hid hbx20;have HW20:=Lib.hid hw20;have q20:=Nat.le_of_eq hw20.size;have q20':=Nat.le_of_eq hw20.size.symm;clear hbx20 hw20)|(refine wpList_load_as laySt rfl (.tmp 12) rfl (w.heap.size+1+ 1+1+ 1) 0 rfl ⟨t4,s4,n4,⟨x1,m1,y1⟩,⟨some ⟨gl,0,none⟩,s.leas.length,y2⟩,⟨x3,m3,y3⟩,⟨x4,m4,y4⟩⟩ (.agg #[.int .i64 t4,.int .i64 s4,.int .i64 n4,.slice x1 m1 y1,.slice (some ⟨gl,0,none⟩) s.leas.length y2,.slice x3 m3 y3,.slice x4 m4 y4]) rfl HX8.out.range ?_)|(refine wpList_store_cellM (L:=layLea) rfl (.tmp 67) (.tmp 65) rfl size1_slice.2.2 HM7.out k HKL.out 6 (show 6<7 by decide) (.int .i64 sp) ⟨i0,i1,i2,i3,i4,i5,sp⟩ (by rw[HXK.out];rfl) rfl rfl rfl rfl ?_;intro w8 hm8 hw8;have HM8:=Lib.hid hm8;have HW8:=Lib.hid hw8;have HX8:=Lib.hid (HX7.out.wrote hw8 (by omega));have q8:=Nat.le_of_eq hw8.size;have q8':=Nat.le_of_eq hw8.size.symm;clear hm8 hw8)|(have hgq:=q6;clear hgq;refine wpList_store_box layLea rfl (.tmp 16) (.tmp 40) rfl ⟨i0,i1,i2,i3,i4,i5,i6⟩ rfl rfl rfl ?_;intro w7 hw7 ht7 hb7 hs7;obtain⟨p0,p1,p2,p3,p4,p5,p6⟩:=cellsLea0 hw7;have HC7:Hid (Box w7 w6.heap.size (Lease.cells ⟨i0,i1,i2,i3,i4,i5,i6⟩)):=⟨hw7,ht7⟩;have HB7:=Lib.hid (HB6.out.trans (hb7.mono (by omega)));have HX7:=Lib.hid (HX6.out.below hb7 (by omega));have HS7:=Lib.hid (HS6.out.below hb7 (by omega));have HST7:=Lib.hid (HST6.out.mid (Mid.below hb7 (Nat.le_refl _):Mid w3.heap.size w6.heap.size w6 w7) (Nat.le_refl _) (Nat.le_refl _));have HM7:=Lib.hid (HM6.out.block (hb7.block gl (by omega)));have q7:=hb7.size;have q7':w7.heap.size≤ w6.heap.size+1:= (by rw[hs7];exact Nat.le_refl _);have q7'':w6.heap.size+ 1≤w7.heap.size:= (by rw[hs7];exact Nat.le_refl _);have k34:=HX7.out.cell (j:=4) rfl;clear k4;clear hw7 ht7 hs7)|(refine wpList_load_lay layLea rfl (.tmp 39) rfl b (o+k* layLea.size) rfl ⟨i0,i1,i2,i3,i4,i5,i6⟩ (HRG.out w6 HB6.out) ?_)|(go_at_call 123;have hpl:=HPL.out (w.heap.size+1+ 1+1) (w.heap.size+1) (w.heap.size+1+ 1) w5 HB45.out HP5.out.1 HP5.out.2.1 HP5.out.2.2;((with_reducible refine hpl.mono ?_);clear hpl;rw[HI.out];rintro e w6 ⟨rfl,hb6⟩;have HB6:=Lib.hid (HB45.out.trans (hb6.mono (by omega)));have HX6:=Lib.hid (HX5.out.below hb6 (by omega));have HS6:=Lib.hid (HS5.out.below hb6 (by omega));have HST6:=Lib.hid (HST5.out.mid (Mid.below hb6 (Nat.le_refl _):Mid w3.heap.size w5.heap.size w5 w6) (Nat.le_refl _) (Nat.le_refl _));have HM6:=Lib.hid (HM5.out.block (hb6.block gl (by omega)));have q6:=hb6.size;clear k4;have k4:=HS6.out.cell (j:=4) rfl))|(refine wpList_store_whole laySt rfl (.tmp 12) (.tmp 25) rfl (w.heap.size+1+ 1+1+ 1) ⟨t4,s4,n4,⟨x1,m1,y1⟩,⟨some ⟨gl,0,none⟩,s.leas.length,y2⟩,⟨x3,m3,y3⟩,⟨x4,m4,y4⟩⟩ _ rfl rfl HX4.out.2.2.2.2.1 rfl ?_;intro w5 hbx5 hw5;have HX5:=Lib.hid hbx5;have q3:=HX3.out.2.2.2.2.2;have HST5:=Lib.hid (HST4.out.mid (Mid.wrote (Mid.refl w3.heap.size w4.heap.size w4) hw5 (.inl (by omega))) (Nat.le_refl _) (Nat.le_refl _));have HS5:=Lib.hid (HX4.out.1.wrote hw5 (by omega));have HP5:=Lib.hid (And.intro ((HX4.out.2.2.2.1.wrote hw5 (by omega)).cell (j:=0) rfl) (And.intro ((HX4.out.2.1.wrote hw5 (by omega)).cell (j:=0) rfl) ((HX4.out.2.2.1.wrote hw5 (by omega)).cell (j:=0) rfl)));have hb5:Below (w.heap.size+1+ 1+1+ 1) w4 w5:=hw5.below _ (Nat.le_refl _);have HB45:Hid (Below w.heap.size w w5):=Below.trans (show Below w.heap.size w w4 from belo) (hb5.mono (by omega));have q5:=Nat.le_of_eq hw5.size;have q5':=Nat.le_of_eq hw5.size.symm;have q34:=hb4.size;have k4:=HS5.out.cell (j:=4) rfl;have HM5:=Lib.hid (HM4.out.block (hw5.keep gl (by omega)));clear hbx5 hw5)|(go_at_call 57;((with_reducible refine(HCP.out _ belo).mono ?_);rintro e w4 ⟨⟨t4,s4,n4,⟨x1,m1,y1⟩,⟨x2,m2,y2⟩,⟨x3,m3,y3⟩,⟨x4,m4,y4⟩⟩,rfl,hst4,hb4⟩;have hown:=hst4.lea.own (show 0<s.leas.length from Nat.lt_of_le_of_lt (Nat.zero_le _) HKL.out);obtain⟨gl,hx2,hgl,hcm⟩:=own_head hown (by intro h1;have:=congrArg List.length h1;rw[layLea.length,List.length_nil,Nat.mul_eq_zero]at this;have:=layLea.pos;have:=HKL.out;omega);simp only at hx2;subst hx2;have hm2:s.leas.length= m2:=hst4.is.lea.len;subst hm2;have hgl4:gl< w4.heap.size:=hst4.lt gl 0 none rfl;have HM4:=Lib.hid (Mine.of_own (L:=layLea) hown);clear hown;have HST4:=Lib.hid hst4;have HX4:=Lib.hid (HBX.out w4 belo);clear hst4))|(go_at_call 43;((with_reducible refine(HCK.out _ belo).mono ?_);rw[HOK.out];rintro e w3 ⟨rfl,hb3⟩;have HX3:=Lib.hid (HBX.out w3 belo)))|(refine wpList_load_as laySt rfl (.tmp 6) rfl w.heap.size 0 rfl ⟨term,stamp,next,⟨a1,n1,c1⟩,⟨some ⟨b,o,none⟩,s.leas.length,c2⟩,⟨a3,n3,c3⟩,⟨a4,n4,c4⟩⟩ (.agg #[.int .i64 term,.int .i64 stamp,.int .i64 next,.slice a1 n1 c1,.slice (some ⟨b,o,none⟩) s.leas.length c2,.slice a3 n3 c3,.slice a4 n4 c4]) rfl (HBX.out _ belo).1.range ?_))
 have S20:StAt w20 w3.heap.size ⟨t4,s4,n4,⟨x1,m1,y1⟩,⟨some ⟨gl,0,none⟩,s.leas.length,y2⟩,⟨x3,m3,y3⟩,⟨x4,m4,y4⟩⟩ {s with leas:=s.leas.set k ⟨i0,i1,i2,i3,i4,i5,sp⟩}:=by
  have:=drop_st (fl:=s.leas.set k ⟨i0,i1,i2,i3,i4,i5,sp⟩) (g6:=gl) HST7.out HM8.out.row (by rw[List.length_set];exact Nat.le_refl _) ((Only.refl gl w7).wrote HW8.out) (.inl ⟨0,none,rfl⟩) ((Mid.refl w3.heap.size w8.heap.size w8).wrote HW20.out (.inl (by omega)))
  rw[List.length_set]at this
  exact this
 have b8:Below w.heap.size w w8:=HB7.out.trans (HW8.out.below _ (by omega))
 have b20:Below w.heap.size w w20:=b8.trans (HW20.out.below _ (by omega))
 refine door_only (report1_d w3.heap.size (w.heap.size+1+ 1+1+ 1) {s with leas:=s.leas.set k ⟨i0,i1,i2,i3,i4,i5,sp⟩} .returning w20 (sweep_st {s with leas:=s.leas.set k ⟨i0,i1,i2,i3,i4,i5,sp⟩} _ w3.heap.size (w.heap.size+1+ 1+1+ 1) w20 HX20.out S20 (by omega) (by omega) HFIT2.out HL.out.1 (by show(s.leas.set k _).length≤900;rw[List.length_set];exact HL.out.2.1))) (by simp[go_sem]) ?_
 intro w' r9 hbxr hstr hor
 exact report_outN (g:=(w.heap.size+1+ 1+1+ 1)) (r9:=r9) (e:=0) rfl rfl hbxr (hstr.mono (by omega)) rfl (b20.trans (hor.below (by omega) (by omega)))
end Go.Proofs.YtfdmhpohfjbpfaaGreat
