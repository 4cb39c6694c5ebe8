import Derived.Test.YtfdmhpohfjbpfaaGreatSq15
set_option linter.unusedVariables false
set_option linter.unusedSimpArgs false
namespace Go.Proofs.YtfdmhpohfjbpfaaGreat
open Go.ChangeShapes Go.WideShapes Go.ChangeAt Go.RowKit
set_option maxRecDepth 100000
set_option maxHeartbeats 8000000 in
theorem grant_not (s:St) (r:Raw) (B:Nat) (sh ep nu te sz:Int) (w:World) (h:StAt w B r s) (hl1':s.tens.length≤ 800) (hl2:s.leas.length≤ 900) (hl3:s.sess.length≤ 900) (hl4:s.dsks.length≤ 900)
 (hng:stOk s=true→ (1≤sh∧ sh≤8∧ 1≤ep∧ 1≤nu∧ 1≤sz∧ sz≤1000000)→(findT s.tens te).2=true→ (findT s.tens te).1.gone=false→ s.leas.length<64→ s.next<1099511627776→ (takeI (findT s.tens te).1.bucket sz).2≠0):
 Calls Tryz.prog 118 #[r.agg,.int .i64 sh,.int .i64 ep,.int .i64 nu,.int .i64 te,.int .i64 sz] w (RetSAN w (grantS s sh ep nu te sz)):=by
 have hl1:s.tens.length≤ 900:=by omega
 have hmf:∀(fn:Fn) (first cap:Array Value) (w:World),(Instr.makeFunc fn first cap).run Tryz.prog w= .ok (.func fn first cap) w:=fun _ _ _ _=>rfl
 have HS:=Lib.hid h
 have HL:=Lib.hid (And.intro hl1 (And.intro hl2 (And.intro hl3 hl4)))
 have HCK:=Lib.hid (fun w' (hb:Below w.heap.size w w')=>check_st s r B w' (h.below hb) hl1 hl2)
 have HCP:=Lib.hid (fun w' (hb:Below w.heap.size w w')=>copied_stX s r B w' (h.below hb) hl1 hl2 hl3 hl4)
 have HPF:=Lib.hid (fun w' (hb:Below w.heap.size w w')=>pfind_any s.tens r.ten.a r.ten.n r.ten.c te w' h.ten.len (le_maxLen (by omega)) (Row.below h.trow hb))
 have HNG:=Lib.hid hng
 clear hng
 have HE:Hid (grantS s sh ep nu te sz=if stOk s=false then(s,Ans.err 2)else if argsBad sh ep nu sz then(sweptS s,Ans.err 2)else if(findT s.tens te).2=false∨ (findT s.tens te).1.gone=true then(sweptS s,Ans.err 161)
  else if 64≤s.leas.length∨ 1099511627776≤s.next then(sweptS s,Ans.err 100)else if(takeI (findT s.tens te).1.bucket sz).2≠0 then(sweptS s,Ans.err (takeI (findT s.tens te).1.bucket sz).2)
  else(sweptS {s with tens:=(setS s.tens {(findT s.tens te).1 with bucket:=(takeI (findT s.tens te).1.bucket sz).1}).1,leas:=s.leas++ [⟨s.next,te,sh,ep,nu,sz,0⟩],next:=s.next+ 1},⟨0,(findT s.tens te).1.rate,(findT s.tens te).1.burst,s.next,sz⟩)):=rfl
 generalize grantS s sh ep nu te sz=res at HE ⊢
 obtain⟨term,stamp,next,⟨a1,n1,c1⟩,⟨a2,n2,c2⟩,⟨a3,n3,c3⟩,⟨a4,n4,c4⟩⟩:=r
 have hnx:next= s.next:=h.next
 have hn2:s.leas.length= n2:=h.lea.len
 subst hnx
 subst hn2
 have HBX:Hid (∀w',Below (((w.alloc (.cells #[.int .i64 term,.int .i64 stamp,.int .i64 s.next,.slice a1 n1 c1,.slice a2 s.leas.length c2,.slice a3 n3 c3,.slice a4 n4 c4] 27)).alloc (.cells #[.int .i64 0,.int .i64 0,.int .i64 0,.slice none 0 0,.slice none 0 0,.slice none 0 0,.slice none 0 0] 27)).alloc (.cells #[.int .i64 0,.int .i64 0,.int .i64 0,.int .i64 0,.int .i64 0] 40)).heap.size (((w.alloc (.cells #[.int .i64 term,.int .i64 stamp,.int .i64 s.next,.slice a1 n1 c1,.slice a2 s.leas.length c2,.slice a3 n3 c3,.slice a4 n4 c4] 27)).alloc (.cells #[.int .i64 0,.int .i64 0,.int .i64 0,.slice none 0 0,.slice none 0 0,.slice none 0 0,.slice none 0 0] 27)).alloc (.cells #[.int .i64 0,.int .i64 0,.int .i64 0,.int .i64 0,.int .i64 0] 40)) w'→
  Box w' w.heap.size (Raw.cells ⟨term,stamp,s.next,⟨a1,n1,c1⟩,⟨a2,s.leas.length,c2⟩,⟨a3,n3,c3⟩,⟨a4,n4,c4⟩⟩)∧Box w' (w.heap.size+1) (Raw.cells ⟨0,0,0,⟨none,0,0⟩,⟨none,0,0⟩,⟨none,0,0⟩,⟨none,0,0⟩⟩)∧Box w' (w.heap.size+1+ 1) (Ans.cells ⟨0,0,0,0,0⟩)∧w.heap.size+ 3≤w'.heap.size):=
  fun w' hb=>⟨Box.of_alloc (mid_alloc' (mid_alloc' hb)),Box.of_alloc1 (mid_alloc' hb),Box.of_alloc2 hb,by have:=hb.size;simp at this;omega⟩
 clear h hl1 hl2 hl3 hl4
 cases hok:stOk s with
 |false=>
  have HOK:=Lib.hid hok
  have HO:Hid (res=(s,Ans.err 2)):=by show _=_;rw[HE.out,if_pos hok]
  clear hok HE HCP HPF
  go_enter_defers Tryz.func118,Tryz.ntmps118
  go_wp2_with(first|(refine wpList_load_as laySt rfl (.tmp 6) rfl w.heap.size 0 rfl ⟨term,stamp,s.next,⟨a1,n1,c1⟩,⟨a2,s.leas.length,c2⟩,⟨a3,n3,c3⟩,⟨a4,n4,c4⟩⟩ (.agg #[.int .i64 term,.int .i64 stamp,.int .i64 s.next,.slice a1 n1 c1,.slice a2 s.leas.length c2,.slice a3 n3 c3,.slice a4 n4 c4]) rfl (HBX.out _ belo).1.range ?_)|(go_at_call 43;((with_reducible refine(HCK.out _ belo).mono ?_);rw[HOK.out];rintro e w3 ⟨rfl,hb3⟩;have HX3:=Lib.hid (HBX.out w3 belo)))|(refine wpList_store_whole laySt rfl (.tmp 12) (.tmp 21) rfl (w.heap.size+1) ⟨term,stamp,s.next,⟨a1,n1,c1⟩,⟨a2,s.leas.length,c2⟩,⟨a3,n3,c3⟩,⟨a4,n4,c4⟩⟩ _ rfl rfl HX3.out.2.1 rfl ?_;intro w8 hbx8 hw8;have HX8:=Lib.hid hbx8;have HW8:=Lib.hid hw8;have HA8:=Lib.hid (HX3.out.2.2.1.wrote hw8 (by omega));clear hbx8 hw8)|(refine wpList_store_whole layAns rfl (.tmp 13) (.tmp 22) rfl (w.heap.size+1+ 1) ⟨2,0,0,0,0⟩ _ rfl rfl HA8.out rfl ?_;intro w9 hbx9 hw9;have HA9:=Lib.hid hbx9;have HW9:=Lib.hid hw9;have HX9:=Lib.hid (HX8.out.wrote hw9 (by omega));clear hbx9 hw9))
  have b3:Below w.heap.size w w3:=belo
  have b9:Below w.heap.size w w9:=(b3.trans (HW8.out.below _ (by omega))).trans (HW9.out.below _ (by omega))
  exact grant_outN (a:=⟨2,0,0,0,0⟩) rfl rfl HX9.out HA9.out (B:=0) (by rw[HO.out];exact(HS.out.below b9).mono (Nat.zero_le _)) (fun h=>by rw[HO.out]at h;rw[HOK.out]at h;cases h) (by rw[HO.out];rfl) b9
 |true=>
  have HOK:=Lib.hid hok
  have HFIT:=Lib.hid (stOk_ten hok).2
  have HTK:=Lib.hid (stOk_ten hok).1
  have hne:¬(stOk s=false):=by rw[hok];simp
  have HE1:=Lib.hid (HE.out.trans (if_neg hne))
  clear hok HE hne
  rcases hfd:findT s.tens te with⟨⟨fid,frate,fburst,fbucket,fgone⟩,ok⟩
  have HFD:=Lib.hid hfd
  go_enter_defers Tryz.func118,Tryz.ntmps118
  go_upto_region 6 with(first|(refine wpList_load_as laySt rfl (.tmp 6) rfl w.heap.size 0 rfl ⟨term,stamp,s.next,⟨a1,n1,c1⟩,⟨a2,s.leas.length,c2⟩,⟨a3,n3,c3⟩,⟨a4,n4,c4⟩⟩ (.agg #[.int .i64 term,.int .i64 stamp,.int .i64 s.next,.slice a1 n1 c1,.slice a2 s.leas.length c2,.slice a3 n3 c3,.slice a4 n4 c4]) rfl (HBX.out _ belo).1.range ?_)|(go_at_call 43;((with_reducible refine(HCK.out _ belo).mono ?_);rw[HOK.out];rintro e w3 ⟨rfl,hb3⟩;have HX3:=Lib.hid (HBX.out w3 belo)))|(go_at_call 57;((with_reducible refine(HCP.out _ belo).mono ?_);rintro e w4 ⟨⟨t4,s4,n4',⟨x1,m1,y1⟩,⟨x2,m2,y2⟩,⟨x3,m3,y3⟩,⟨x4,m4,y4⟩⟩,rfl,hst4,hsd4,hb4⟩;have HST4:=Lib.hid hst4;have HSD:=Lib.hid hsd4;clear hsd4;have HX4:=Lib.hid (HBX.out w4 belo);clear hst4))|(refine wpList_store_whole laySt rfl (.tmp 12) (.tmp 25) rfl (w.heap.size+1) ⟨t4,s4,n4',⟨x1,m1,y1⟩,⟨x2,m2,y2⟩,⟨x3,m3,y3⟩,⟨x4,m4,y4⟩⟩ _ rfl rfl HX4.out.2.1 rfl ?_;intro w5 hbx5 hw5;have HX5:=Lib.hid hbx5;have q3:=HX3.out.2.2.2;have HST5:=Lib.hid (HST4.out.mid (Mid.wrote (Mid.refl w3.heap.size w4.heap.size w4) hw5 (.inl (by omega))) (Nat.le_refl _) (Nat.le_refl _));have HS5:=Lib.hid (HX4.out.1.wrote hw5 (by omega));have HA5:=Lib.hid (HX4.out.2.2.1.wrote hw5 (by omega));have hb5:Below (w.heap.size+1) w4 w5:=hw5.below _ (Nat.le_refl _);have hb45:Below w.heap.size w w5:=Below.trans (show Below w.heap.size w w4 from belo) (hb5.mono (by omega));have q5:w5.heap.size= w4.heap.size:=hw5.size;have q34:=hb4.size;have k3:=HS5.out.cell (j:=3) rfl;clear hbx5 hw5)|(go_at_call 77;((with_reducible refine(HPF.out w5 hb45).mono ?_);rw[HFD.out];rintro e w6 ⟨rfl,hb6⟩;have HX6:=Lib.hid (HX5.out.below hb6 (by omega));have HS6:=Lib.hid (HS5.out.below hb6 (by omega));have HA6:=Lib.hid (HA5.out.below hb6 (by omega));have HST6:=Lib.hid (HST5.out.mid (Mid.below hb6 (Nat.le_refl _):Mid w3.heap.size w5.heap.size w5 w6) (Nat.le_refl _) (Nat.le_refl _));have q6:=hb6.size;clear k3))|(refine wpList_store_box layTen rfl (.tmp 14) (.tmp 31) rfl ⟨fid,frate,fburst,fbucket,fgone⟩ rfl rfl rfl ?_;intro w7 hw7 ht7 hb7 hs7;obtain⟨p0,p1,p2,p3,p4⟩:=cellsTen0 hw7;have HB7:Hid (Box w7 w6.heap.size (Tenant.cells ⟨fid,frate,fburst,fbucket,fgone⟩)):=⟨hw7,ht7⟩;have HX7:=Lib.hid (HX6.out.below hb7 (by omega));have HS7:=Lib.hid (HS6.out.below hb7 (by omega));have HA7:=Lib.hid (HA6.out.below hb7 (by omega));have HST7:=Lib.hid (HST6.out.mid (Mid.below hb7 (Nat.le_refl _):Mid w3.heap.size w6.heap.size w6 w7) (Nat.le_refl _) (Nat.le_refl _));obtain⟨l0,l1,l2,l3,l4,l5,l6⟩:=cellsSt0 HS7.out.range;clear hw7 ht7))
  by_cases hA:argsBad sh ep nu sz
  ·have HO:=Lib.hid (HE1.out.trans (if_pos hA))
   have hA':sh< 1∨(1≤sh∧ 8<sh)∨(1≤sh∧ sh≤8∧ ep<1)∨(1≤sh∧ sh≤8∧ 1≤ep∧ nu<1)∨(1≤sh∧ sh≤8∧ 1≤ep∧ 1≤nu∧ sz<1)∨(1≤sh∧ sh≤8∧ 1≤ep∧ 1≤nu∧ 1≤sz∧ 1000000<sz):=by unfold argsBad at hA;omega
   clear hA HE1 hfd
   rcases hA' with g1|⟨g1,g2⟩|⟨g1,g2,g3⟩|⟨g1,g2,g3,g4⟩|⟨g1,g2,g3,g4,g5⟩|⟨g1,g2,g3,g4,g5,g6⟩
   all_goals
    go_wp2_with(first|(refine wpList_load_as laySt rfl (.tmp 12) rfl (w.heap.size+1) 0 rfl ⟨t4,s4,n4',⟨x1,m1,y1⟩,⟨x2,m2,y2⟩,⟨x3,m3,y3⟩,⟨x4,m4,y4⟩⟩ (.agg #[.int .i64 t4,.int .i64 s4,.int .i64 n4',.slice x1 m1 y1,.slice x2 m2 y2,.slice x3 m3 y3,.slice x4 m4 y4]) rfl HX7.out.range ?_)|(refine wpList_store_whole laySt rfl (.tmp 12) (.tmp 56) rfl (w.heap.size+1) ⟨t4,s4,n4',⟨x1,m1,y1⟩,⟨x2,m2,y2⟩,⟨x3,m3,y3⟩,⟨x4,m4,y4⟩⟩ _ rfl rfl HX7.out rfl ?_;intro w8 hbx8 hw8;have HX8:=Lib.hid hbx8;have HW8:=Lib.hid hw8;have HA8:=Lib.hid (HA7.out.wrote hw8 (by omega));have q8:=hw8.size;clear hbx8 hw8)|(refine wpList_store_whole layAns rfl (.tmp 13) (.tmp 57) rfl (w.heap.size+1+ 1) ⟨2,0,0,0,0⟩ _ rfl rfl HA8.out rfl ?_;intro w9 hbx9 hw9;have HA9:=Lib.hid hbx9;have HW9:=Lib.hid hw9;have HX9:=Lib.hid (HX8.out.wrote hw9 (by omega));have q9:=hw9.size;clear hbx9 hw9))
    have m79:Mid w3.heap.size w7.heap.size w7 w9:=((Mid.refl w3.heap.size w7.heap.size w7).wrote HW8.out (.inl (by omega))).wrote HW9.out (.inl (by omega))
    have S9:StAt w9 w3.heap.size ⟨t4,s4,n4',⟨x1,m1,y1⟩,⟨x2,m2,y2⟩,⟨x3,m3,y3⟩,⟨x4,m4,y4⟩⟩ s:=HST7.out.is.mid m79 (Nat.le_refl _) (Nat.le_refl _)
    have b9:Below w.heap.size w w9:=(((hb45.trans (hb6.mono (by omega))).trans (hb7.mono (by omega))).trans (HW8.out.below _ (by omega))).trans (HW9.out.below _ (by omega))
    refine door_onlyX (grant1_dX w3.heap.size (w.heap.size+1) _ s .returning w9 (sweep_stX s _ w3.heap.size (w.heap.size+1) w9 HX9.out S9 (by omega) (by omega) HFIT.out HL.out.1 HL.out.2.1)) (by simp[go_sem]) ?_
    intro w' r9 hbxr hstr hor hr9
    exact grant_outN (r9:=r9) (a:=⟨2,0,0,0,0⟩) rfl rfl hbxr (HA9.out.block (hor.block _ (by omega) (by omega))) (B:=w3.heap.size) (by rw[HO.out];exact hstr) (fun _=>⟨⟨by omega,by omega⟩,apd_swept S9 (by omega) HST4.out.td HST4.out.ld HSD.out hr9⟩) (by rw[HO.out];rfl) (b9.trans (hor.below (by omega) (by omega)))
  ·have HE2:=Lib.hid (HE1.out.trans (if_neg hA))
   obtain⟨g1,g2,g3,g4,g5,g6⟩:1≤ sh∧sh≤ 8∧1≤ ep∧1≤ nu∧1≤ sz∧sz≤ 1000000:=by unfold argsBad at hA;omega
   clear HE1 hA
   by_cases hB:ok= false∨fgone= true
   ·have HO:=Lib.hid (HE2.out.trans (if_pos (by rw[hfd];exact hB)))
    clear HE2 hfd
    have hB':ok= false∨(ok=true∧ fgone=true):=by cases ok<;>simp_all
    rcases hB' with rfl|⟨rfl,rfl⟩
    all_goals
     go_wp2_with(first|(refine wpList_load_as laySt rfl (.tmp 12) rfl (w.heap.size+1) 0 rfl ⟨t4,s4,n4',⟨x1,m1,y1⟩,⟨x2,m2,y2⟩,⟨x3,m3,y3⟩,⟨x4,m4,y4⟩⟩ (.agg #[.int .i64 t4,.int .i64 s4,.int .i64 n4',.slice x1 m1 y1,.slice x2 m2 y2,.slice x3 m3 y3,.slice x4 m4 y4]) rfl HX7.out.range ?_)|(refine wpList_store_whole laySt rfl (.tmp 12) (.tmp 65) rfl (w.heap.size+1) ⟨t4,s4,n4',⟨x1,m1,y1⟩,⟨x2,m2,y2⟩,⟨x3,m3,y3⟩,⟨x4,m4,y4⟩⟩ _ rfl rfl HX7.out rfl ?_;intro w8 hbx8 hw8;have HX8:=Lib.hid hbx8;have HW8:=Lib.hid hw8;have HA8:=Lib.hid (HA7.out.wrote hw8 (by omega));have q8:=hw8.size;clear hbx8 hw8)|(refine wpList_store_whole layAns rfl (.tmp 13) (.tmp 66) rfl (w.heap.size+1+ 1) ⟨161,0,0,0,0⟩ _ rfl rfl HA8.out rfl ?_;intro w9 hbx9 hw9;have HA9:=Lib.hid hbx9;have HW9:=Lib.hid hw9;have HX9:=Lib.hid (HX8.out.wrote hw9 (by omega));have q9:=hw9.size;clear hbx9 hw9))
     have m79:Mid w3.heap.size w7.heap.size w7 w9:=((Mid.refl w3.heap.size w7.heap.size w7).wrote HW8.out (.inl (by omega))).wrote HW9.out (.inl (by omega))
     have S9:StAt w9 w3.heap.size ⟨t4,s4,n4',⟨x1,m1,y1⟩,⟨x2,m2,y2⟩,⟨x3,m3,y3⟩,⟨x4,m4,y4⟩⟩ s:=HST7.out.is.mid m79 (Nat.le_refl _) (Nat.le_refl _)
     have b9:Below w.heap.size w w9:=(((hb45.trans (hb6.mono (by omega))).trans (hb7.mono (by omega))).trans (HW8.out.below _ (by omega))).trans (HW9.out.below _ (by omega))
     refine door_onlyX (grant1_dX w3.heap.size (w.heap.size+1) _ s .returning w9 (sweep_stX s _ w3.heap.size (w.heap.size+1) w9 HX9.out S9 (by omega) (by omega) HFIT.out HL.out.1 HL.out.2.1)) (by simp[go_sem]) ?_
     intro w' r9 hbxr hstr hor hr9
     exact grant_outN (r9:=r9) (a:=⟨161,0,0,0,0⟩) rfl rfl hbxr (HA9.out.block (hor.block _ (by omega) (by omega))) (B:=w3.heap.size) (by rw[HO.out];exact hstr) (fun _=>⟨⟨by omega,by omega⟩,apd_swept S9 (by omega) HST4.out.td HST4.out.ld HSD.out hr9⟩) (by rw[HO.out];rfl) (b9.trans (hor.below (by omega) (by omega)))
   ·have HE3:=Lib.hid (HE2.out.trans (if_neg (by rw[hfd];exact hB)))
    obtain⟨rfl,rfl⟩:ok= true∧fgone= false:=by cases ok<;>cases fgone<;>simp_all
    clear HE2 hB
    by_cases hC:64≤ s.leas.length∨1099511627776≤ s.next
    ·have HO:=Lib.hid (HE3.out.trans (if_pos hC))
     have hC':(64≤s.leas.length)∨(s.leas.length<64∧ 1099511627776≤s.next):=by omega
     clear HE3 hfd hC
     rcases hC' with g7|⟨g7,g8⟩
     all_goals
      go_wp2_with(first|(refine wpList_load_as laySt rfl (.tmp 12) rfl (w.heap.size+1) 0 rfl ⟨t4,s4,n4',⟨x1,m1,y1⟩,⟨x2,m2,y2⟩,⟨x3,m3,y3⟩,⟨x4,m4,y4⟩⟩ (.agg #[.int .i64 t4,.int .i64 s4,.int .i64 n4',.slice x1 m1 y1,.slice x2 m2 y2,.slice x3 m3 y3,.slice x4 m4 y4]) rfl HX7.out.range ?_)|(refine wpList_store_whole laySt rfl (.tmp 12) (.tmp 75) rfl (w.heap.size+1) ⟨t4,s4,n4',⟨x1,m1,y1⟩,⟨x2,m2,y2⟩,⟨x3,m3,y3⟩,⟨x4,m4,y4⟩⟩ _ rfl rfl HX7.out rfl ?_;intro w8 hbx8 hw8;have HX8:=Lib.hid hbx8;have HW8:=Lib.hid hw8;have HA8:=Lib.hid (HA7.out.wrote hw8 (by omega));have q8:=hw8.size;clear hbx8 hw8)|(refine wpList_store_whole layAns rfl (.tmp 13) (.tmp 76) rfl (w.heap.size+1+ 1) ⟨100,0,0,0,0⟩ _ rfl rfl HA8.out rfl ?_;intro w9 hbx9 hw9;have HA9:=Lib.hid hbx9;have HW9:=Lib.hid hw9;have HX9:=Lib.hid (HX8.out.wrote hw9 (by omega));have q9:=hw9.size;clear hbx9 hw9))
      have m79:Mid w3.heap.size w7.heap.size w7 w9:=((Mid.refl w3.heap.size w7.heap.size w7).wrote HW8.out (.inl (by omega))).wrote HW9.out (.inl (by omega))
      have S9:StAt w9 w3.heap.size ⟨t4,s4,n4',⟨x1,m1,y1⟩,⟨x2,m2,y2⟩,⟨x3,m3,y3⟩,⟨x4,m4,y4⟩⟩ s:=HST7.out.is.mid m79 (Nat.le_refl _) (Nat.le_refl _)
      have b9:Below w.heap.size w w9:=(((hb45.trans (hb6.mono (by omega))).trans (hb7.mono (by omega))).trans (HW8.out.below _ (by omega))).trans (HW9.out.below _ (by omega))
      refine door_onlyX (grant1_dX w3.heap.size (w.heap.size+1) _ s .returning w9 (sweep_stX s _ w3.heap.size (w.heap.size+1) w9 HX9.out S9 (by omega) (by omega) HFIT.out HL.out.1 HL.out.2.1)) (by simp[go_sem]) ?_
      intro w' r9 hbxr hstr hor hr9
      exact grant_outN (r9:=r9) (a:=⟨100,0,0,0,0⟩) rfl rfl hbxr (HA9.out.block (hor.block _ (by omega) (by omega))) (B:=w3.heap.size) (by rw[HO.out];exact hstr) (fun _=>⟨⟨by omega,by omega⟩,apd_swept S9 (by omega) HST4.out.td HST4.out.ld HSD.out hr9⟩) (by rw[HO.out];rfl) (b9.trans (hor.below (by omega) (by omega)))
    ·have HE4:=Lib.hid (HE3.out.trans (if_neg hC))
     obtain⟨g7,g8⟩:s.leas.length< 64∧s.next< 1099511627776:=by omega
     obtain⟨g9,g10⟩:=findT_ten HTK.out hfd
     simp only at g9 g10
     rcases takeI_ways fbucket sz with htk|htk
     ·have HTA:=Lib.hid htk
      have HO:=Lib.hid (HE4.out.trans (if_pos (by rw[hfd];show(takeI fbucket sz).2≠0;rw[htk];simp)))
      have HO2:Hid (res=(sweptS s,Ans.err 170)):=by show _=_;rw[HO.out,hfd];show(sweptS s,Ans.err (takeI fbucket sz).2)=_;rw[htk]
      clear HE4 HE3 hC hfd htk HO
      go_wp2_with(first|(go_at_call 165;((with_reducible refine(take_any _ _ _ g9 g10).mono ?_);rw[HTA.out];rintro e w7b ⟨rfl,hb7b⟩;have HX7:=Lib.hid (HX7.out.below hb7b (by omega));have HA7:=Lib.hid (HA7.out.below hb7b (by omega));have HB7:=Lib.hid (HB7.out.below hb7b (by omega));have HS7:=Lib.hid (HS7.out.below hb7b (by omega));have HST7:=Lib.hid (HST7.out.mid (Mid.below hb7b (Nat.le_refl _):Mid w3.heap.size w7.heap.size w7 w7b) (Nat.le_refl _) (Nat.le_refl _));have q7b:=hb7b.size))|(refine wpList_load_as laySt rfl (.tmp 12) rfl (w.heap.size+1) 0 rfl ⟨t4,s4,n4',⟨x1,m1,y1⟩,⟨x2,m2,y2⟩,⟨x3,m3,y3⟩,⟨x4,m4,y4⟩⟩ (.agg #[.int .i64 t4,.int .i64 s4,.int .i64 n4',.slice x1 m1 y1,.slice x2 m2 y2,.slice x3 m3 y3,.slice x4 m4 y4]) rfl HX7.out.range ?_)|(refine wpList_store_whole laySt rfl (.tmp 12) (.tmp 86) rfl (w.heap.size+1) ⟨t4,s4,n4',⟨x1,m1,y1⟩,⟨x2,m2,y2⟩,⟨x3,m3,y3⟩,⟨x4,m4,y4⟩⟩ _ rfl rfl HX7.out rfl ?_;intro w8 hbx8 hw8;have HX8:=Lib.hid hbx8;have HW8:=Lib.hid hw8;have HA8:=Lib.hid (HA7.out.wrote hw8 (by omega));have q8:=hw8.size;clear hbx8 hw8)|(refine wpList_store_whole layAns rfl (.tmp 13) (.tmp 88) rfl (w.heap.size+1+ 1) ⟨170,0,0,0,0⟩ _ rfl rfl HA8.out rfl ?_;intro w9 hbx9 hw9;have HA9:=Lib.hid hbx9;have HW9:=Lib.hid hw9;have HX9:=Lib.hid (HX8.out.wrote hw9 (by omega));have q9:=hw9.size;clear hbx9 hw9))
      have m79:Mid w3.heap.size w7b.heap.size w7b w9:=((Mid.refl w3.heap.size w7b.heap.size w7b).wrote HW8.out (.inl (by omega))).wrote HW9.out (.inl (by omega))
      have S9:StAt w9 w3.heap.size ⟨t4,s4,n4',⟨x1,m1,y1⟩,⟨x2,m2,y2⟩,⟨x3,m3,y3⟩,⟨x4,m4,y4⟩⟩ s:=HST7.out.is.mid m79 (Nat.le_refl _) (Nat.le_refl _)
      have b9:Below w.heap.size w w9:=(((hb45.trans (hb6.mono (by omega))).trans ((hb7.mono (by omega)).trans (hb7b.mono (by omega)))).trans (HW8.out.below _ (by omega))).trans (HW9.out.below _ (by omega))
      refine door_onlyX (grant1_dX w3.heap.size (w.heap.size+1) _ s .returning w9 (sweep_stX s _ w3.heap.size (w.heap.size+1) w9 HX9.out S9 (by omega) (by omega) HFIT.out HL.out.1 HL.out.2.1)) (by simp[go_sem]) ?_
      intro w' r9 hbxr hstr hor hr9
      exact grant_outN (r9:=r9) (a:=⟨170,0,0,0,0⟩) rfl rfl hbxr (HA9.out.block (hor.block _ (by omega) (by omega))) (B:=w3.heap.size) (by rw[HO2.out];exact hstr) (fun _=>⟨⟨by omega,by omega⟩,apd_swept S9 (by omega) HST4.out.td HST4.out.ld HSD.out hr9⟩) (by rw[HO2.out];rfl) (b9.trans (hor.below (by omega) (by omega)))
     ·exact absurd (show(takeI (findT s.tens te).1.bucket sz).2=0 by rw[hfd];show(takeI fbucket sz).2=0;rw[htk]) (HNG.out HOK.out ⟨g1,g2,g3,g4,g5,g6⟩ (by rw[hfd]) (by rw[hfd]) g7 g8)
end Go.Proofs.YtfdmhpohfjbpfaaGreat
