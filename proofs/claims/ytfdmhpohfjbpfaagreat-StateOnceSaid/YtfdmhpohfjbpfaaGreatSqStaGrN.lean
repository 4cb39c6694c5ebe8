import Derived.Test.YtfdmhpohfjbpfaaGreatSq16
set_option linter.unusedVariables false
set_option linter.unusedSimpArgs false
namespace Go.Proofs.YtfdmhpohfjbpfaaGreat
open Go.ChangeShapes Go.WideShapes Go.ChangeAt Go.RowKit Go.Maps
set_option maxRecDepth 100000
set_option maxHeartbeats 16000000 in
theorem grant_bad (s:St) (q:Raw) (c:WCmd) (p:PCmd) (gs gc:Nat) (w:World) (HG:Bex w gs q.cells) (HST:StAt w 0 q s) (HC:CmdAt w gc c p) (hne:gs≠ gc) (hok:stateOk s=true) (hgood:goodWCmd c) (hbad:deskBad c):
 Calls Tryz.prog 69 #[.pointer (some ⟨gs,0,none⟩),.pointer (some ⟨gc,0,none⟩)] w (WayPost w gs (s,Ans.err 2)):=by
 obtain⟨hsm1,hsm2,hsm3,hsm4⟩:=ok_small hok
 have hok4:=(stateOk_parts hok).2.2.2.1
 have hok5:=(stateOk_parts hok).2.2.2.2
 have HOK4:=Lib.hid hok4
 have HOK5:=Lib.hid hok5
 have HWF:=Lib.hid (fun d h=>wf_small (n:=Desk.shaper d) (by have:=dsksOk_wf hok5 d h;omega) (by have:=dsksOk_wf hok5 d h;omega))
 have HSH:=Lib.hid (inI_wf hgood.2.2.2.2.2.2.1)
 have HPF:=Lib.hid (fun f (h:PlD s.dsks s.dsks.length f)=>h.find hok5 c.shaper)
 have hgs:=HG.lt
 have hgc:=HC.box.lt
 obtain⟨t1,t2,t3,⟨a1,n1,c1⟩,⟨a2,n2,c2⟩,⟨a3,n3,c3⟩,⟨a4,n4,c4⟩⟩:=q
 have HC0:=Lib.hid HC
 have HBx:=Lib.hid ((Below.refl w.heap.size w).alloc (Nat.le_refl _) (.cells #[.int .i64 0,.int .i64 0,.int .i64 0,.int .i64 0,.int .i64 0] 40))
 have HGx:=Lib.hid (HG.next ((Below.refl w.heap.size w).alloc (Nat.le_refl _) (.cells #[.int .i64 0,.int .i64 0,.int .i64 0,.int .i64 0,.int .i64 0] 40)))
 have HSx:=Lib.hid (HST.below ((Below.refl w.heap.size w).alloc (Nat.le_refl _) (.cells #[.int .i64 0,.int .i64 0,.int .i64 0,.int .i64 0,.int .i64 0] 40)))
 have HAx:=Lib.hid (ans_new w)
 have HOx:=Lib.hid (Only.of (g:=gs) ((Below.refl w.heap.size w).alloc (Nat.le_refl _) (.cells #[.int .i64 0,.int .i64 0,.int .i64 0,.int .i64 0,.int .i64 0] 40)))
 have hb':c.shaper< 1∨(¬c.shaper< 1∧8< c.shaper)∨(¬c.shaper< 1∧¬8< c.shaper∧c.epoch< 1)∨(¬c.shaper< 1∧¬8< c.shaper∧¬c.epoch< 1∧c.number< 1):=by unfold deskBad at hbad;omega
 clear hbad
 clear HG HC HST hok hok4 hok5 hgood
 go_enter Tryz.func69,Tryz.ntmps69
 go_upto_region 1 with fail
 obtain⟨w1,hw1⟩:∃x,x=w.alloc (.cells #[.int .i64 0,.int .i64 0,.int .i64 0,.int .i64 0,.int .i64 0] 40):=⟨_,rfl⟩
 rw[←hw1]at HBx HGx HSx HAx HOx ⊢
 have hz1:w.heap.size< w1.heap.size:=by rw[hw1];simp
 clear hw1
 have k0:=(HC0.out.next HBx.out).box.box.cell (j:=6) rfl
 have k1:=(HC0.out.next HBx.out).box.box.cell (j:=7) rfl
 have k2:=(HC0.out.next HBx.out).box.box.cell (j:=2) rfl
 rcases hb' with e1|⟨e1,e2⟩|⟨e1,e2,e3⟩|⟨e1,e2,e3,e4⟩
 all_goals
  go_wp2_with((with_reducible refine at_store 40 (.tmp 4) (.tmp 39) ?_);refine wpList_store_bex layAns rfl (.tmp 4) (.tmp 39) rfl w.heap.size (Ans.err 2) _ rfl rfl HAx.out rfl ?_;intro wz hxz hwz;have HXZ:=Lib.hid hxz;have HWZ:=Lib.hid hwz;clear hxz hwz)
  obtain⟨j0,j1,j2,j3,j4⟩:=ans_cells HXZ.out
  refine bodyPost_ret (v:=Ans.agg (Ans.err 2)) (by simp[results,Tryz.results69,Ans.err,go_sem,j0,j1,j2,j3,j4]) rfl ?_
  exact⟨rfl,_,HGx.out.wrote HWZ.out (by omega),HSx.out.wrote HAx.out (misfits_ans _) HWZ.out,HOx.out.wroteNew HWZ.out (Nat.le_refl _)⟩
set_option maxHeartbeats 16000000 in
theorem grant_old (s:St) (q:Raw) (c:WCmd) (p:PCmd) (gs gc:Nat) (w:World) (HG:Bex w gs q.cells) (HST:StAt w 0 q s) (HC:CmdAt w gc c p) (hne:gs≠ gc) (hok:stateOk s=true) (hgood:goodWCmd c) (hnb:¬deskBad c) (d:Desk) (hfd:findK Desk.shaper s.dsks c.shaper=some d) (hold:deskOld c d):
 Calls Tryz.prog 69 #[.pointer (some ⟨gs,0,none⟩),.pointer (some ⟨gc,0,none⟩)] w (WayPost w gs (s,Ans.err 150)):=by
 obtain⟨hsm1,hsm2,hsm3,hsm4⟩:=ok_small hok
 have hok4:=(stateOk_parts hok).2.2.2.1
 have hok5:=(stateOk_parts hok).2.2.2.2
 have HOK4:=Lib.hid hok4
 have HOK5:=Lib.hid hok5
 have HWF:=Lib.hid (fun d h=>wf_small (n:=Desk.shaper d) (by have:=dsksOk_wf hok5 d h;omega) (by have:=dsksOk_wf hok5 d h;omega))
 have HSH:=Lib.hid (inI_wf hgood.2.2.2.2.2.2.1)
 have HPF:=Lib.hid (fun f (h:PlD s.dsks s.dsks.length f)=>h.find hok5 c.shaper)
 have hgs:=HG.lt
 have hgc:=HC.box.lt
 obtain⟨t1,t2,t3,⟨a1,n1,c1⟩,⟨a2,n2,c2⟩,⟨a3,n3,c3⟩,⟨a4,n4,c4⟩⟩:=q
 have HC0:=Lib.hid HC
 have HBx:=Lib.hid ((Below.refl w.heap.size w).alloc (Nat.le_refl _) (.cells #[.int .i64 0,.int .i64 0,.int .i64 0,.int .i64 0,.int .i64 0] 40))
 have HGx:=Lib.hid (HG.next ((Below.refl w.heap.size w).alloc (Nat.le_refl _) (.cells #[.int .i64 0,.int .i64 0,.int .i64 0,.int .i64 0,.int .i64 0] 40)))
 have HSx:=Lib.hid (HST.below ((Below.refl w.heap.size w).alloc (Nat.le_refl _) (.cells #[.int .i64 0,.int .i64 0,.int .i64 0,.int .i64 0,.int .i64 0] 40)))
 have HAx:=Lib.hid (ans_new w)
 have HOx:=Lib.hid (Only.of (g:=gs) ((Below.refl w.heap.size w).alloc (Nat.le_refl _) (.cells #[.int .i64 0,.int .i64 0,.int .i64 0,.int .i64 0,.int .i64 0] 40)))
 unfold deskOld at hold
 have hn':¬c.shaper< 1∧¬8< c.shaper∧¬c.epoch< 1∧¬c.number< 1:=by unfold deskBad at hnb;omega
 obtain⟨e1,e2,e3,e4⟩:=hn'
 clear hnb
 clear HG HC HST hok hok4 hok5 hgood
 go_enter Tryz.func69,Tryz.ntmps69
 go_upto_region 1 with fail
 obtain⟨w1,hw1⟩:∃x,x=w.alloc (.cells #[.int .i64 0,.int .i64 0,.int .i64 0,.int .i64 0,.int .i64 0] 40):=⟨_,rfl⟩
 rw[←hw1]at HBx HGx HSx HAx HOx ⊢
 have hz1:w.heap.size< w1.heap.size:=by rw[hw1];simp
 clear hw1
 have k0:=(HC0.out.next HBx.out).box.box.cell (j:=6) rfl
 have k1:=(HC0.out.next HBx.out).box.box.cell (j:=7) rfl
 have k2:=(HC0.out.next HBx.out).box.box.cell (j:=2) rfl
 have k6:=HGx.out.box.cell (j:=6) rfl
 have hgs1:gs< w1.heap.size:=HGx.out.lt
 simp only at k6
 have hmm:= @run_makeMap Tryz.prog
 obtain rfl:s.dsks.length= n4:=HSx.out.dsk.len
 go_upto_region 3 with fail
 go_wp2
 clear k0 k1 k2 k6
 go_loopw [46] (fun i wr=>∃k: Nat,∃f,k≤s.dsks.length∧ i= .int .i64 k∧Hid (PlD s.dsks k f)∧Hid (MapI keyWh 3 wr w1.heap.size k f)∧Hid (Below w1.heap.size w1 wr)) (fun i _=>s.dsks.length- (intOf i).toNat)
 case atStart=>exact ⟨0,fun _=>none,by omega,rfl,PlD.zero _,MapI.made w1,(Below.refl _ _).alloc (Nat.le_refl _) _⟩
 case round=>
  obtain⟨k,f,hk,rfl,hp,hm,hb⟩:=hrel
  by_cases hlt:k< s.dsks.length
  ·have HROW:=Lib.hid (HSx.out.dsk.row)
   simp only at HROW
   obtain⟨b,o,rfl,hcs⟩:=LRow.range HROW.out hlt
   have HRG:=Lib.hid (hcs wr hb.out)
   have HP1:=Lib.hid (hp.out.next hlt)
   have HW:=Lib.hid (HWF.out s.dsks[k] (List.getElem_mem hlt))
   clear hcs
   generalize s.dsks[k]=x at HRG HP1 HW
   obtain⟨x0,x1,x2,⟨xe,xr,xb,xl,xz⟩⟩:=x
   have hmb:=hm.out.lt
   go_wp2_with(first|((with_reducible refine at_load 66 (.tmp 49) ?_);refine wpList_load_as layDsk rfl (.tmp 49) rfl b (o+k* 8) rfl ⟨x0,x1,x2,⟨xe,xr,xb,xl,xz⟩⟩ (.agg #[.int .i64 x0,.int .i64 x1,.int .i64 x2,.int .i64 xe,.int .i64 xr,.int .i64 xb,.int .i64 xl,.int .i64 xz]) rfl HRG.out ?_)|((with_reducible refine at_store 66 (.tmp 7) (.tmp 50) ?_);refine wpList_store_bex layDsk rfl (.tmp 7) (.tmp 50) rfl wr.heap.size ⟨x0,x1,x2,⟨xe,xr,xb,xl,xz⟩⟩ zDsk.cells rfl rfl (Bex.new wr zDsk.cells _) rfl ?_;intro w7 hx7 hw7;have hb7:Below wr.heap.size wr w7:=((Below.refl _ _).alloc (Nat.le_refl _) _).trans (hw7.below _ (Nat.le_refl _));have HB7:=Lib.hid hb7;have HM7:=Lib.hid (hm.out.below hb7 hmb);have p0:w7.cell? ⟨wr.heap.size,0,none⟩=some (.int .i64 x0):=hx7.box.cell (j:=0) rfl;clear hx7 hw7 hb7)|(refine wpList_putI keyWh Tryz.underlying156 Tryz.underlying3 rfl (.tmp 51) (.tmp 54) (.tmp 55) rfl w1.heap.size k f rfl HM7.out (by unfold maxLen;omega) x0 HW.out rfl k rfl (wf_small (by omega) (by omega)) ?_;intro w8 hm8 hg8;have HM8:=Lib.hid hm8;have HB8:Hid (Below w1.heap.size w1 w8):=(hb.out.trans (HB7.out.mono hb.out.size)).grown hg8 (by have h1:=hb.out.size;have h2:=HB7.out.size;omega) (fun _ h=>by cases h;exact Nat.le_refl _);clear hm8 hg8))
   go_roundw
   case rel=>exact ⟨k+1,_,by omega,by go_num,HP1.out,HM8.out,HB8.out⟩
   case measure=>simp [intOf];omega
  ·obtain rfl:k= s.dsks.length:=by omega
   have hpf:=HPF.out f hp.out
   have HM:=Lib.hid hm.out
   replace HBx:=Lib.hid (HBx.out.trans (hb.out.mono HBx.out.size))
   replace HGx:=Lib.hid (HGx.out.below hb.out HGx.out.lt)
   replace HSx:=Lib.hid (HSx.out.below hb.out)
   replace HAx:=Lib.hid (HAx.out.next hb.out)
   replace HOx:=Lib.hid (HOx.out.next hb.out)
   have k0:=(HC0.out.next HBx.out).box.box.cell (j:=6) rfl
   rcases hpf with⟨_,hpf⟩|⟨j,hj,hfj,hfd2,hsj⟩
   ·rw[hfd]at hpf;cases hpf
   rw[hfd]at hfd2
   have hdj:s.dsks[j]=d:= (Option.some.inj hfd2).symm
   have HROW:=Lib.hid (HSx.out.dsk.row)
   simp only at HROW
   obtain⟨b,o,rfl,hcs⟩:=LRow.range HROW.out hj
   have HRG:=Lib.hid (hcs wr (Below.refl _ _))
   rw[hdj]at HRG
   clear hcs hfd hfd2 hdj hsj HPF HWF
   obtain⟨y0,y1,y2,⟨ye,yr,yb,yl,yz⟩⟩:=d
   have r1:wr.cell? ⟨b,o+j* 8+1,none⟩=some (.int .i64 y1):=(cellsDsk HRG.out).2.1
   have r2:wr.cell? ⟨b,o+j* 8+2,none⟩=some (.int .i64 y2):=(cellsDsk HRG.out).2.2.1
   have k1:=(HC0.out.next HBx.out).box.box.cell (j:=7) rfl
   have k2:=(HC0.out.next HBx.out).box.box.cell (j:=2) rfl
   have k6:=HGx.out.box.cell (j:=6) rfl
   simp only at k6
   simp only at hold
   by_cases h1:c.epoch< y1
   ·have q1:decide (c.epoch<y1)=true:= decide_eq_true h1
    go_upto_region 12 with(refine wpList_getOkI keyWh Tryz.underlying156 Tryz.underlying3 zero_int rfl (.tmp 58) (.tmp 63) rfl w1.heap.size s.dsks.length f rfl HM.out c.shaper HSH.out rfl ?_)
    go_quiet (fail)
    go_wp2_with((with_reducible refine at_store 40 (.tmp 4) (.tmp 104) ?_);refine wpList_store_bex layAns rfl (.tmp 4) (.tmp 104) rfl w.heap.size (Ans.err 150) _ rfl rfl (by exact HAx.out) rfl ?_;intro wz hxz hwz;have hwzz:Wrote w.heap.size wr wz:=⟨fun B hB=>(have h:=hwz.below B hB;⟨h.os,h.tape,h.output,h.size,h.block⟩),hwz.size,hwz.keep⟩;have HXZ:=Lib.hid hxz;have HWZ:=Lib.hid hwzz;clear hxz hwz hwzz)
    obtain⟨j0,j1,j2,j3,j4⟩:=ans_cells HXZ.out
    refine bodyPost_ret (v:=Ans.agg (Ans.err 150)) (by simp[results,Tryz.results69,Ans.err,go_sem,j0,j1,j2,j3,j4]) rfl ?_
    exact⟨rfl,_,HGx.out.wrote HWZ.out (by omega),HSx.out.wrote HAx.out (misfits_ans _) HWZ.out,HOx.out.wroteNew HWZ.out (Nat.le_refl _)⟩
   ·obtain⟨h2,h3⟩:c.epoch= y1∧c.number< y2:=by omega
    have q1:decide (c.epoch<y1)=false:= decide_eq_false h1
    have q2:(c.epoch==y1)=true:= by simpa using h2
    have q3:decide (c.number<y2)=true:= decide_eq_true h3
    clear h1 h2 h3 hold
    go_upto_region 12 with(refine wpList_getOkI keyWh Tryz.underlying156 Tryz.underlying3 zero_int rfl (.tmp 58) (.tmp 63) rfl w1.heap.size s.dsks.length f rfl HM.out c.shaper HSH.out rfl ?_)
    go_quiet (fail)
    go_wp2
    go_quiet (fail)
    go_wp2_with((with_reducible refine at_store 40 (.tmp 4) (.tmp 104) ?_);refine wpList_store_bex layAns rfl (.tmp 4) (.tmp 104) rfl w.heap.size (Ans.err 150) _ rfl rfl (by exact HAx.out) rfl ?_;intro wz hxz hwz;have hwzz:Wrote w.heap.size wr wz:=⟨fun B hB=>(have h:=hwz.below B hB;⟨h.os,h.tape,h.output,h.size,h.block⟩),hwz.size,hwz.keep⟩;have HXZ:=Lib.hid hxz;have HWZ:=Lib.hid hwzz;clear hxz hwz hwzz)
    obtain⟨j0,j1,j2,j3,j4⟩:=ans_cells HXZ.out
    refine bodyPost_ret (v:=Ans.agg (Ans.err 150)) (by simp[results,Tryz.results69,Ans.err,go_sem,j0,j1,j2,j3,j4]) rfl ?_
    exact⟨rfl,_,HGx.out.wrote HWZ.out (by omega),HSx.out.wrote HAx.out (misfits_ans _) HWZ.out,HOx.out.wroteNew HWZ.out (Nat.le_refl _)⟩
set_option maxHeartbeats 16000000 in
theorem grant_told (s:St) (q:Raw) (c:WCmd) (p:PCmd) (gs gc:Nat) (w:World) (HG:Bex w gs q.cells) (HST:StAt w 0 q s) (HC:CmdAt w gc c p) (hne:gs≠ gc) (hok:stateOk s=true) (hgood:goodWCmd c) (hnb:¬deskBad c) (d:Desk) (hfd:findK Desk.shaper s.dsks c.shaper=some d) (htold:deskTold c d):
 Calls Tryz.prog 69 #[.pointer (some ⟨gs,0,none⟩),.pointer (some ⟨gc,0,none⟩)] w (WayPost w gs (s,d.answer)):=by
 obtain⟨hsm1,hsm2,hsm3,hsm4⟩:=ok_small hok
 have hok4:=(stateOk_parts hok).2.2.2.1
 have hok5:=(stateOk_parts hok).2.2.2.2
 have HOK4:=Lib.hid hok4
 have HOK5:=Lib.hid hok5
 have HWF:=Lib.hid (fun d h=>wf_small (n:=Desk.shaper d) (by have:=dsksOk_wf hok5 d h;omega) (by have:=dsksOk_wf hok5 d h;omega))
 have HSH:=Lib.hid (inI_wf hgood.2.2.2.2.2.2.1)
 have HPF:=Lib.hid (fun f (h:PlD s.dsks s.dsks.length f)=>h.find hok5 c.shaper)
 have hgs:=HG.lt
 have hgc:=HC.box.lt
 obtain⟨t1,t2,t3,⟨a1,n1,c1⟩,⟨a2,n2,c2⟩,⟨a3,n3,c3⟩,⟨a4,n4,c4⟩⟩:=q
 have HC0:=Lib.hid HC
 have HBx:=Lib.hid ((Below.refl w.heap.size w).alloc (Nat.le_refl _) (.cells #[.int .i64 0,.int .i64 0,.int .i64 0,.int .i64 0,.int .i64 0] 40))
 have HGx:=Lib.hid (HG.next ((Below.refl w.heap.size w).alloc (Nat.le_refl _) (.cells #[.int .i64 0,.int .i64 0,.int .i64 0,.int .i64 0,.int .i64 0] 40)))
 have HSx:=Lib.hid (HST.below ((Below.refl w.heap.size w).alloc (Nat.le_refl _) (.cells #[.int .i64 0,.int .i64 0,.int .i64 0,.int .i64 0,.int .i64 0] 40)))
 have HAx:=Lib.hid (ans_new w)
 have HOx:=Lib.hid (Only.of (g:=gs) ((Below.refl w.heap.size w).alloc (Nat.le_refl _) (.cells #[.int .i64 0,.int .i64 0,.int .i64 0,.int .i64 0,.int .i64 0] 40)))
 unfold deskTold at htold
 have hn':¬c.shaper< 1∧¬8< c.shaper∧¬c.epoch< 1∧¬c.number< 1:=by unfold deskBad at hnb;omega
 obtain⟨e1,e2,e3,e4⟩:=hn'
 clear hnb
 clear HG HC HST hok hok4 hok5 hgood
 go_enter Tryz.func69,Tryz.ntmps69
 go_upto_region 1 with fail
 obtain⟨w1,hw1⟩:∃x,x=w.alloc (.cells #[.int .i64 0,.int .i64 0,.int .i64 0,.int .i64 0,.int .i64 0] 40):=⟨_,rfl⟩
 rw[←hw1]at HBx HGx HSx HAx HOx ⊢
 have hz1:w.heap.size< w1.heap.size:=by rw[hw1];simp
 clear hw1
 have k0:=(HC0.out.next HBx.out).box.box.cell (j:=6) rfl
 have k1:=(HC0.out.next HBx.out).box.box.cell (j:=7) rfl
 have k2:=(HC0.out.next HBx.out).box.box.cell (j:=2) rfl
 have k6:=HGx.out.box.cell (j:=6) rfl
 have hgs1:gs< w1.heap.size:=HGx.out.lt
 simp only at k6
 have hmm:= @run_makeMap Tryz.prog
 obtain rfl:s.dsks.length= n4:=HSx.out.dsk.len
 go_upto_region 3 with fail
 go_wp2
 clear k0 k1 k2 k6
 go_loopw [46] (fun i wr=>∃k: Nat,∃f,k≤s.dsks.length∧ i= .int .i64 k∧Hid (PlD s.dsks k f)∧Hid (MapI keyWh 3 wr w1.heap.size k f)∧Hid (Below w1.heap.size w1 wr)) (fun i _=>s.dsks.length- (intOf i).toNat)
 case atStart=>exact ⟨0,fun _=>none,by omega,rfl,PlD.zero _,MapI.made w1,(Below.refl _ _).alloc (Nat.le_refl _) _⟩
 case round=>
  obtain⟨k,f,hk,rfl,hp,hm,hb⟩:=hrel
  by_cases hlt:k< s.dsks.length
  ·have HROW:=Lib.hid (HSx.out.dsk.row)
   simp only at HROW
   obtain⟨b,o,rfl,hcs⟩:=LRow.range HROW.out hlt
   have HRG:=Lib.hid (hcs wr hb.out)
   have HP1:=Lib.hid (hp.out.next hlt)
   have HW:=Lib.hid (HWF.out s.dsks[k] (List.getElem_mem hlt))
   clear hcs
   generalize s.dsks[k]=x at HRG HP1 HW
   obtain⟨x0,x1,x2,⟨xe,xr,xb,xl,xz⟩⟩:=x
   have hmb:=hm.out.lt
   go_wp2_with(first|((with_reducible refine at_load 66 (.tmp 49) ?_);refine wpList_load_as layDsk rfl (.tmp 49) rfl b (o+k* 8) rfl ⟨x0,x1,x2,⟨xe,xr,xb,xl,xz⟩⟩ (.agg #[.int .i64 x0,.int .i64 x1,.int .i64 x2,.int .i64 xe,.int .i64 xr,.int .i64 xb,.int .i64 xl,.int .i64 xz]) rfl HRG.out ?_)|((with_reducible refine at_store 66 (.tmp 7) (.tmp 50) ?_);refine wpList_store_bex layDsk rfl (.tmp 7) (.tmp 50) rfl wr.heap.size ⟨x0,x1,x2,⟨xe,xr,xb,xl,xz⟩⟩ zDsk.cells rfl rfl (Bex.new wr zDsk.cells _) rfl ?_;intro w7 hx7 hw7;have hb7:Below wr.heap.size wr w7:=((Below.refl _ _).alloc (Nat.le_refl _) _).trans (hw7.below _ (Nat.le_refl _));have HB7:=Lib.hid hb7;have HM7:=Lib.hid (hm.out.below hb7 hmb);have p0:w7.cell? ⟨wr.heap.size,0,none⟩=some (.int .i64 x0):=hx7.box.cell (j:=0) rfl;clear hx7 hw7 hb7)|(refine wpList_putI keyWh Tryz.underlying156 Tryz.underlying3 rfl (.tmp 51) (.tmp 54) (.tmp 55) rfl w1.heap.size k f rfl HM7.out (by unfold maxLen;omega) x0 HW.out rfl k rfl (wf_small (by omega) (by omega)) ?_;intro w8 hm8 hg8;have HM8:=Lib.hid hm8;have HB8:Hid (Below w1.heap.size w1 w8):=(hb.out.trans (HB7.out.mono hb.out.size)).grown hg8 (by have h1:=hb.out.size;have h2:=HB7.out.size;omega) (fun _ h=>by cases h;exact Nat.le_refl _);clear hm8 hg8))
   go_roundw
   case rel=>exact ⟨k+1,_,by omega,by go_num,HP1.out,HM8.out,HB8.out⟩
   case measure=>simp [intOf];omega
  ·obtain rfl:k= s.dsks.length:=by omega
   have hpf:=HPF.out f hp.out
   have HM:=Lib.hid hm.out
   replace HBx:=Lib.hid (HBx.out.trans (hb.out.mono HBx.out.size))
   replace HGx:=Lib.hid (HGx.out.below hb.out HGx.out.lt)
   replace HSx:=Lib.hid (HSx.out.below hb.out)
   replace HAx:=Lib.hid (HAx.out.next hb.out)
   replace HOx:=Lib.hid (HOx.out.next hb.out)
   have k0:=(HC0.out.next HBx.out).box.box.cell (j:=6) rfl
   rcases hpf with⟨_,hpf⟩|⟨j,hj,hfj,hfd2,hsj⟩
   ·rw[hfd]at hpf;cases hpf
   rw[hfd]at hfd2
   have hdj:s.dsks[j]=d:= (Option.some.inj hfd2).symm
   have HROW:=Lib.hid (HSx.out.dsk.row)
   simp only at HROW
   obtain⟨b,o,rfl,hcs⟩:=LRow.range HROW.out hj
   have HRG:=Lib.hid (hcs wr (Below.refl _ _))
   rw[hdj]at HRG
   clear hcs hfd hfd2 hdj hsj HPF HWF
   obtain⟨y0,y1,y2,⟨ye,yr,yb,yl,yz⟩⟩:=d
   have r1:wr.cell? ⟨b,o+j* 8+1,none⟩=some (.int .i64 y1):=(cellsDsk HRG.out).2.1
   have r2:wr.cell? ⟨b,o+j* 8+2,none⟩=some (.int .i64 y2):=(cellsDsk HRG.out).2.2.1
   have k1:=(HC0.out.next HBx.out).box.box.cell (j:=7) rfl
   have k2:=(HC0.out.next HBx.out).box.box.cell (j:=2) rfl
   have k6:=HGx.out.box.cell (j:=6) rfl
   simp only at k6
   simp only at htold
   obtain⟨h2,h3⟩:=htold
   have q1:decide (c.epoch<y1)=false:= decide_eq_false (by omega)
   have q2:(c.epoch==y1)=true:= by simpa using h2
   have q3:decide (c.number<y2)=false:= decide_eq_false (by omega)
   have q4:(c.number==y2)=true:= by simpa using h3
   have HAN:Hid (wr.rangeAt b (o+j* 8+3) (Ans.cells ⟨ye,yr,yb,yl,yz⟩)):=rangeAt_drop 3 HRG.out
   clear h2 h3
   go_upto_region 12 with(refine wpList_getOkI keyWh Tryz.underlying156 Tryz.underlying3 zero_int rfl (.tmp 58) (.tmp 63) rfl w1.heap.size s.dsks.length f rfl HM.out c.shaper HSH.out rfl ?_)
   go_quiet (fail)
   go_wp2
   go_quiet (fail)
   go_wp2
   go_quiet (fail)
   go_wp2_with(first|((with_reducible refine at_load 40 (.tmp 128) ?_);refine wpList_load_as layAns rfl (.tmp 128) rfl b (o+j* 8+3) rfl ⟨ye,yr,yb,yl,yz⟩ (Ans.agg ⟨ye,yr,yb,yl,yz⟩) rfl (by exact HAN.out) ?_)|((with_reducible refine at_store 40 (.tmp 4) (.tmp 129) ?_);refine wpList_store_bex layAns rfl (.tmp 4) (.tmp 129) rfl w.heap.size ⟨ye,yr,yb,yl,yz⟩ _ rfl rfl (by exact HAx.out) rfl ?_;intro wz hxz hwz;have hwzz:Wrote w.heap.size wr wz:=⟨fun B hB=>(have h:=hwz.below B hB;⟨h.os,h.tape,h.output,h.size,h.block⟩),hwz.size,hwz.keep⟩;have HXZ:=Lib.hid hxz;have HWZ:=Lib.hid hwzz;clear hxz hwz hwzz))
   obtain⟨j0,j1,j2,j3,j4⟩:=ans_cells HXZ.out
   refine bodyPost_ret (v:=Ans.agg ⟨ye,yr,yb,yl,yz⟩) (by simp[results,Tryz.results69,Ans.err,go_sem,j0,j1,j2,j3,j4]) rfl ?_
   exact⟨rfl,_,HGx.out.wrote HWZ.out (by omega),HSx.out.wrote HAx.out (misfits_ans _) HWZ.out,HOx.out.wroteNew HWZ.out (Nat.le_refl _)⟩
end Go.Proofs.YtfdmhpohfjbpfaaGreat
