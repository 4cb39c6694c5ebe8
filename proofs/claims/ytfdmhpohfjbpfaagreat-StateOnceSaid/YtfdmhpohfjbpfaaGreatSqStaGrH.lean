import Derived.Test.YtfdmhpohfjbpfaaGreatSqStaGrF
set_option linter.unusedVariables false
set_option linter.unusedSimpArgs false
namespace Go.Proofs.YtfdmhpohfjbpfaaGreat
open Go.ChangeShapes Go.WideShapes Go.ChangeAt Go.RowKit Go.Maps
set_option maxRecDepth 100000
theorem op_store_mine {P:Program} {e:TypeId} {α:Type} {op:Oper} {a:Act} {w:World} {K:Act→ World→Prop} {Q:Exit→ Act→World→ Prop} (L:Lay P e α) (x y:Operand) (ho:op.op= .store e x y)
 {B g o:Nat} {xs:List α} (hm:Mine L w B g o xs) (k:Nat) (hk:k< xs.length) (z:α) (hx:a.eval x= .pointer (some ⟨g,o+k* L.size,none⟩)) (hy:a.eval y=L.val z)
 (h:∀w',Mine L w' B g o (xs.set k z)→Wrote g w w'→K (a.put op.dst undef) w'):Oper.wp P op a w K Q:=by
 unfold Oper.wp execOp
 simp only[ho,hx,hy,Sem.run_bind,Sem.run_pure,Result.andThen_ok,L.store w g (o+k* L.size) z (hm.there hk)]
 exact h _ (hm.set hk z) ⟨fun _ hB=>Below.setCells hB _ _ (Below.refl _ _),setCells_size _ _ _ _,fun k hk=>setCells_keep g _ _ _ k hk⟩
theorem insK_here {l:List Desk} {x:Desk} {j:Nat} (hs:dsksOk l=true) (hj:j< l.length) (h:l[j].shaper=x.shaper):insK Desk.shaper x l=l.set j x:=by
 have hpw:=(chainOk_iff.1 hs).2
 have hle:lessK Desk.shaper x.shaper l=j:= by
  rcases Nat.lt_trichotomy (lessK Desk.shaper x.shaper l) j with h1|h1| h1
  ·have hk:lessK Desk.shaper x.shaper l<l.length:= by omega
   have h2:=lessK_hi (key:=Desk.shaper) x.shaper hpw _ hk (Nat.le_refl _)
   have h3:=List.pairwise_iff_getElem.1 hpw _ _ hk hj h1
   omega
  ·exact h1
  ·have:=lessK_lo (key:=Desk.shaper) x.shaper j hj h1
   omega
 have h2:l[lessK Desk.shaper x.shaper l]? =some l[j]:=by rw[hle,List.getElem?_eq_getElem hj]
 have:=insK_some (key:=Desk.shaper) (x:=x) h2 h
 rw[hle]at this
 exact this
theorem set_dsk {w9 w10:World} {B B' gD:Nat} {u1 u2 u3:Int} {l1 l2 l3:Sli} {m4 d4:Nat} {s:St} {ds:List Desk} (h:StAt w9 B ⟨u1,u2,u3,l1,l2,l3,⟨some ⟨gD,0,none⟩,m4,d4⟩⟩ s) (hap:ApD ⟨u1,u2,u3,l1,l2,l3,⟨some ⟨gD,0,none⟩,m4,d4⟩⟩) (hw:Wrote gD w9 w10) (hl:ds.length= m4) (hm:Mine layDsk w10 B' gD 0 ds):
 StAt w10 0 ⟨u1,u2,u3,l1,l2,l3,⟨some ⟨gD,0,none⟩,m4,d4⟩⟩ {s with dsks:=ds}:=by
 have key:∀ {P:Program} {e:TypeId} {α:Type} {L:Lay P e α} {sl:Sli} {xs:List α},SliAt L w9 B sl xs→Ap sl.a (some ⟨gD,0,none⟩)→SliAt L w10 0 sl xs:=fun {P e α L sl xs} q hd=>by
  refine⟨q.len,q.le,q.nil,fun _ _ _ _=> .inl (Nat.zero_le _),?_⟩
  rcases q.row with h1|⟨b,o,ha,hc⟩
  ·exact .inl h1
  ·by_cases h1:xs.flatMap L.cells=[]
   ·exact .inl h1
   ·refine .inr ⟨b,o,ha,fun i hi=> ?_⟩
    rw[World.cell?_of_block (w:=w9) (hw.keep b (hd b o none gD 0 none ha rfl))]
    exact hc i hi
 exact⟨h.term,h.stamp,h.next,key h.ten hap.1,key h.lea hap.2.1,key h.ses hap.2.2,⟨hl,h.dsk.le,(fun e=>by cases e),(fun _ _ _ _=> .inl (Nat.zero_le _)),hm.row⟩,fun h=>absurd h (by omega),fun h=>absurd h (by omega)⟩
set_option maxHeartbeats 16000000 in
theorem grant_here (s:St) (q:Raw) (c:WCmd) (p:PCmd) (gs gc:Nat) (w:World) (HG:Bex w gs q.cells) (HST:StAt w 0 q s) (HC:CmdAt w gc c p) (hne:gs≠ gc) (hok:stateOk s=true) (hgood:goodWCmd c) (hnb:¬deskBad c) (d:Desk) (hfd:findK Desk.shaper s.dsks c.shaper=some d) (hno:¬deskOld c d) (hnt:¬deskTold c d):
 Calls Tryz.prog 69 #[.pointer (some ⟨gs,0,none⟩),.pointer (some ⟨gc,0,none⟩)] w (WayPost w gs (grantNew s c)):=by
 obtain⟨hsm1,hsm2,hsm3,hsm4⟩:=ok_small hok
 have hok4:=(stateOk_parts hok).2.2.2.1
 have hok5:=(stateOk_parts hok).2.2.2.2
 have HOK4:=Lib.hid hok4
 have HOK5:=Lib.hid hok5
 have HWF:=Lib.hid (fun d h=>wf_small (n:=Desk.shaper d) (by have:=dsksOk_wf hok5 d h;omega) (by have:=dsksOk_wf hok5 d h;omega))
 have HSH:=Lib.hid (inI_wf hgood.2.2.2.2.2.2.1)
 have HPF:=Lib.hid (fun f (h:PlD s.dsks s.dsks.length f)=>h.find hok5 c.shaper)
 have hgs:=HG.lt
 have hgc:=HC.box.lt
 obtain⟨t1,t2,t3,⟨a1,n1,c1⟩,⟨a2,n2,c2⟩,⟨a3,n3,c3⟩,⟨a4,n4,c4⟩⟩:=q
 have HC0:=Lib.hid HC
 have HBx:=Lib.hid ((Below.refl w.heap.size w).alloc (Nat.le_refl _) (.cells #[.int .i64 0,.int .i64 0,.int .i64 0,.int .i64 0,.int .i64 0] 40))
 have HGx:=Lib.hid (HG.next ((Below.refl w.heap.size w).alloc (Nat.le_refl _) (.cells #[.int .i64 0,.int .i64 0,.int .i64 0,.int .i64 0,.int .i64 0] 40)))
 have HSx:=Lib.hid (HST.below ((Below.refl w.heap.size w).alloc (Nat.le_refl _) (.cells #[.int .i64 0,.int .i64 0,.int .i64 0,.int .i64 0,.int .i64 0] 40)))
 have HAx:=Lib.hid (ans_new w)
 have HOx:=Lib.hid (Only.of (g:=gs) ((Below.refl w.heap.size w).alloc (Nat.le_refl _) (.cells #[.int .i64 0,.int .i64 0,.int .i64 0,.int .i64 0,.int .i64 0] 40)))
 unfold deskOld at hno
 unfold deskTold at hnt
 have hn':¬c.shaper< 1∧¬8< c.shaper∧¬c.epoch< 1∧¬c.number< 1:=by unfold deskBad at hnb;omega
 obtain⟨e1,e2,e3,e4⟩:=hn'
 clear hnb
 clear HG HC HST hok hok4 hok5 hgood
 go_enter Tryz.func69,Tryz.ntmps69
 go_upto_region 1 with fail
 obtain⟨w1,hw1⟩:∃x,x=w.alloc (.cells #[.int .i64 0,.int .i64 0,.int .i64 0,.int .i64 0,.int .i64 0] 40):=⟨_,rfl⟩
 rw[←hw1]at HBx HGx HSx HAx HOx ⊢
 have hz1:w.heap.size< w1.heap.size:=by rw[hw1];simp
 clear hw1
 have k0:=(HC0.out.next HBx.out).box.box.cell (j:=6) rfl
 have k1:=(HC0.out.next HBx.out).box.box.cell (j:=7) rfl
 have k2:=(HC0.out.next HBx.out).box.box.cell (j:=2) rfl
 have k6:=HGx.out.box.cell (j:=6) rfl
 have hgs1:gs< w1.heap.size:=HGx.out.lt
 simp only at k6
 have hmm:= @run_makeMap Tryz.prog
 obtain rfl:s.dsks.length= n4:=HSx.out.dsk.len
 go_upto_region 3 with fail
 go_wp2
 clear k0 k1 k2 k6
 go_loopw [46] (fun i wr=>∃k: Nat,∃f,k≤s.dsks.length∧ i= .int .i64 k∧Hid (PlD s.dsks k f)∧Hid (MapI keyWh 3 wr w1.heap.size k f)∧Hid (Below w1.heap.size w1 wr)) (fun i _=>s.dsks.length- (intOf i).toNat)
 case atStart=>exact ⟨0,fun _=>none,by omega,rfl,PlD.zero _,MapI.made w1,(Below.refl _ _).alloc (Nat.le_refl _) _⟩
 case round=>
  obtain⟨k,f,hk,rfl,hp,hm,hb⟩:=hrel
  by_cases hlt:k< s.dsks.length
  ·have HROW:=Lib.hid (HSx.out.dsk.row)
   simp only at HROW
   obtain⟨b,o,rfl,hcs⟩:=LRow.range HROW.out hlt
   have HRG:=Lib.hid (hcs wr hb.out)
   have HP1:=Lib.hid (hp.out.next hlt)
   have HW:=Lib.hid (HWF.out s.dsks[k] (List.getElem_mem hlt))
   clear hcs
   generalize s.dsks[k]=x at HRG HP1 HW
   obtain⟨x0,x1,x2,⟨xe,xr,xb,xl,xz⟩⟩:=x
   have hmb:=hm.out.lt
   go_wp2_with(first|((with_reducible refine at_load 66 (.tmp 49) ?_);refine wpList_load_as layDsk rfl (.tmp 49) rfl b (o+k* 8) rfl ⟨x0,x1,x2,⟨xe,xr,xb,xl,xz⟩⟩ (.agg #[.int .i64 x0,.int .i64 x1,.int .i64 x2,.int .i64 xe,.int .i64 xr,.int .i64 xb,.int .i64 xl,.int .i64 xz]) rfl HRG.out ?_)|((with_reducible refine at_store 66 (.tmp 7) (.tmp 50) ?_);refine wpList_store_bex layDsk rfl (.tmp 7) (.tmp 50) rfl wr.heap.size ⟨x0,x1,x2,⟨xe,xr,xb,xl,xz⟩⟩ zDsk.cells rfl rfl (Bex.new wr zDsk.cells _) rfl ?_;intro w7 hx7 hw7;have hb7:Below wr.heap.size wr w7:=((Below.refl _ _).alloc (Nat.le_refl _) _).trans (hw7.below _ (Nat.le_refl _));have HB7:=Lib.hid hb7;have HM7:=Lib.hid (hm.out.below hb7 hmb);have p0:w7.cell? ⟨wr.heap.size,0,none⟩=some (.int .i64 x0):=hx7.box.cell (j:=0) rfl;clear hx7 hw7 hb7)|(refine wpList_putI keyWh Tryz.underlying156 Tryz.underlying3 rfl (.tmp 51) (.tmp 54) (.tmp 55) rfl w1.heap.size k f rfl HM7.out (by unfold maxLen;omega) x0 HW.out rfl k rfl (wf_small (by omega) (by omega)) ?_;intro w8 hm8 hg8;have HM8:=Lib.hid hm8;have HB8:Hid (Below w1.heap.size w1 w8):=(hb.out.trans (HB7.out.mono hb.out.size)).grown hg8 (by have h1:=hb.out.size;have h2:=HB7.out.size;omega) (fun _ h=>by cases h;exact Nat.le_refl _);clear hm8 hg8))
   go_roundw
   case rel=>exact ⟨k+1,_,by omega,by go_num,HP1.out,HM8.out,HB8.out⟩
   case measure=>simp [intOf];omega
  ·obtain rfl:k= s.dsks.length:=by omega
   have hpf:=HPF.out f hp.out
   have HM:=Lib.hid hm.out
   replace HBx:=Lib.hid (HBx.out.trans (hb.out.mono HBx.out.size))
   replace HGx:=Lib.hid (HGx.out.below hb.out HGx.out.lt)
   replace HSx:=Lib.hid (HSx.out.below hb.out)
   replace HAx:=Lib.hid (HAx.out.next hb.out)
   replace HOx:=Lib.hid (HOx.out.next hb.out)
   have k0:=(HC0.out.next HBx.out).box.box.cell (j:=6) rfl
   rcases hpf with⟨_,hpf⟩|⟨j,hj,hfj,hfd2,hsj⟩
   ·rw[hfd]at hpf;cases hpf
   rw[hfd]at hfd2
   have hdj:s.dsks[j]=d:= (Option.some.inj hfd2).symm
   have HROW:=Lib.hid (HSx.out.dsk.row)
   simp only at HROW
   obtain⟨b,o,rfl,hcs⟩:=LRow.range HROW.out hj
   have HRG:=Lib.hid (hcs wr (Below.refl _ _))
   rw[hdj]at HRG
   have hsj':s.dsks[j].shaper=c.shaper:= hsj
   clear hcs hfd hfd2 hdj hsj HPF HWF
   obtain⟨y0,y1,y2,⟨ye,yr,yb,yl,yz⟩⟩:=d
   have r1:wr.cell? ⟨b,o+j* 8+1,none⟩=some (.int .i64 y1):=(cellsDsk HRG.out).2.1
   have r2:wr.cell? ⟨b,o+j* 8+2,none⟩=some (.int .i64 y2):=(cellsDsk HRG.out).2.2.1
   have k1:=(HC0.out.next HBx.out).box.box.cell (j:=7) rfl
   have k2:=(HC0.out.next HBx.out).box.box.cell (j:=2) rfl
   have k6:=HGx.out.box.cell (j:=6) rfl
   simp only at k6
   simp only at hno hnt
   have hmwr:=hb.out.size
   by_cases hep:c.epoch= y1
   ·have q1:decide (c.epoch<y1)=false:= decide_eq_false (by omega)
    have q2:(c.epoch==y1)=true:= by simpa using hep
    have q3:decide (c.number<y2)=false:= decide_eq_false (by omega)
    have q4:(c.number==y2)=false:= by rw[beq_eq_false_iff_ne];omega
    clear hep hno hnt
    go_upto_region 12 with(refine wpList_getOkI keyWh Tryz.underlying156 Tryz.underlying3 zero_int rfl (.tmp 58) (.tmp 63) rfl w1.heap.size s.dsks.length f rfl HM.out c.shaper HSH.out rfl ?_)
    go_quiet (fail)
    go_wp2
    go_quiet (fail)
    go_wp2
    go_quiet (fail)
    go_upto_region 18 with fail
    refine(fun(h:∀n,Code.wp Tryz.prog _ _ _ ((World.drewN wr n).alloc _))=>h _) (fun nn=> ?_)
    obtain⟨w2,hw2⟩:∃x,x=(World.drewN wr nn).alloc (.cells #[.int .i64 0,.int .i64 0,.int .i64 0,.int .i64 0,.int .i64 0] 40):=⟨_,rfl⟩
    rw[←hw2]
    have hb:Below wr.heap.size wr w2:=by rw[hw2];exact(below_drewN (Below.refl wr.heap.size wr) nn).alloc (Nat.le_refl wr.heap.size) _
    have HTx:Hid (Bex w2 wr.heap.size zAns.cells):=by rw[hw2];exact ans_new (World.drewN wr nn)
    replace HBx:=Lib.hid (HBx.out.trans (hb.mono HBx.out.size))
    replace HGx:=Lib.hid (HGx.out.next hb)
    replace HSx:=Lib.hid (HSx.out.below hb)
    replace HAx:=Lib.hid (HAx.out.next hb)
    replace HOx:=Lib.hid (HOx.out.next hb)
    have hm2sz:=hmwr
    have hgTw:w.heap.size< wr.heap.size:=Nat.lt_of_lt_of_le hz1 hm2sz
    have hwr2:wr.heap.size< w2.heap.size:=HTx.out.lt
    clear hb hw2 k0 k1 k2 k6 r1 r2
    refine wrq (fun l w'=>(w'.cell? ⟨gc,2,none⟩=some (.int .i64 c.number)∧w'.cell? ⟨gc,3,none⟩=some (.int .i64 c.tenant)∧w'.cell? ⟨gc,6,none⟩=some (.int .i64 c.shaper)∧w'.cell? ⟨gc,7,none⟩=some (.int .i64 c.epoch)∧w'.cell? ⟨gc,9,none⟩=some (.int .i64 c.size))∧Till 29 l (w'.cell? ⟨gs,0,none⟩=some (.int .i64 t1)∧w'.cell? ⟨gs,1,none⟩=some (.int .i64 t2)∧w'.cell? ⟨gs,2,none⟩=some (.int .i64 t3)∧w'.cell? ⟨gs,3,none⟩=some (.slice a1 n1 c1)∧w'.cell? ⟨gs,4,none⟩=some (.slice a2 n2 c2)∧w'.cell? ⟨gs,5,none⟩=some (.slice a3 n3 c3)∧w'.cell? ⟨gs,6,none⟩=some (.slice (some ⟨b,o,none⟩) s.dsks.length c4))) ?_
    refine toS ⟨⟨(HC0.out.next HBx.out).box.box.cell (j:=2) rfl,(HC0.out.next HBx.out).box.box.cell (j:=3) rfl,(HC0.out.next HBx.out).box.box.cell (j:=6) rfl,(HC0.out.next HBx.out).box.box.cell (j:=7) rfl,(HC0.out.next HBx.out).box.box.cell (j:=9) rfl⟩,fun _=>⟨HGx.out.box.cell (j:=0) rfl,HGx.out.box.cell (j:=1) rfl,HGx.out.box.cell (j:=2) rfl,HGx.out.box.cell (j:=3) rfl,HGx.out.box.cell (j:=4) rfl,HGx.out.box.cell (j:=5) rfl,HGx.out.box.cell (j:=6) rfl⟩⟩ ?_
    refine ttq [] 0 ?_
    refine ttq [] 1 ?_
    refine ttq [] 2 ?_
    refine ttq [29] 3 ?_
    refine ttq [] 4 ?_
    refine ttq [] 5 ?_
    refine ttq [] 6 ?_
    refine ttq [29] 7 ?_
    refine ttq [] 8 ?_
    refine ttq [] 9 ?_
    refine ttq [] 10 ?_
    refine ttq [29] 11 ?_
    refine ttq [] 12 ?_
    refine ttq [] 13 ?_
    refine ttq [] 14 ?_
    refine ttq [29] 15 ?_
    refine ttq [] 16 ?_
    refine ttq [] 17 ?_
    refine ttq [] 18 ?_
    refine ttq [29] 19 ?_
    refine ttq [] 20 ?_
    refine ttq [] 21 ?_
    refine ttq [] 22 ?_
    refine ttq [29] 23 ?_
    refine soq 24 (fun K hK=> ?_)
    go_simp
    go_at_call 118
    with_reducible refine(grant_new s _ 0 c.shaper c.epoch c.number c.tenant c.size w2.drew (HSx.out.below ((Below.refl _ _).drew)) (by omega) (by omega) (by omega) (by omega)).mono ?_
    rintro e w3 ⟨⟨u1,u2,u3,⟨b1,m1,d1⟩,⟨b2,m2,d2⟩,⟨b3,m3,d3⟩,⟨b4,m4,d4⟩⟩,B2,rfl,hst,hB2,hbz⟩
    have hb:Below w2.heap.size w2 w3:=⟨hbz.os,hbz.tape,hbz.output,hbz.size,hbz.block⟩
    obtain⟨⟨hB3d,hB30⟩,hap⟩:=hB2 (grant_ok HOK4.out _ _ _ _ _).1
    have hB3:w2.heap.size≤ B2:=hB3d
    clear hB3d
    have HAP:=Lib.hid hap
    clear hap
    have HDK:Hid ((grantS s c.shaper c.epoch c.number c.tenant c.size).1.dsks=s.dsks):=(grant_rest s _ _ _ _ _).2.2.2
    have HN:=Lib.hid hst
    have HCx:=Lib.hid ((HC0.out.next HBx.out).box.next hb)
    replace HGx:=Lib.hid (HGx.out.next hb)
    replace HAx:=Lib.hid (HAx.out.next hb)
    replace HTx:=Lib.hid (HTx.out.next hb)
    replace HOx:=Lib.hid (HOx.out.next hb)
    have hz3:=hb.size
    clear hb hbz hst hB2
    have HQ:Hid (grantNew s c=({(grantS s c.shaper c.epoch c.number c.tenant c.size).1 with dsks:=insK Desk.shaper ⟨c.shaper,c.epoch,c.number,(grantS s c.shaper c.epoch c.number c.tenant c.size).2⟩ (grantS s c.shaper c.epoch c.number c.tenant c.size).1.dsks},(grantS s c.shaper c.epoch c.number c.tenant c.size).2)):=rfl
    generalize grantS s c.shaper c.epoch c.number c.tenant c.size=gr at HN HQ HDK
    obtain⟨gst,⟨ae,ar,ab,al,az⟩⟩:=gr
    refine hK.out _ _ ⟨⟨HCx.out.box.cell (j:=2) rfl,HCx.out.box.cell (j:=3) rfl,HCx.out.box.cell (j:=6) rfl,HCx.out.box.cell (j:=7) rfl,HCx.out.box.cell (j:=9) rfl⟩,fun _=>⟨HGx.out.box.cell (j:=0) rfl,HGx.out.box.cell (j:=1) rfl,HGx.out.box.cell (j:=2) rfl,HGx.out.box.cell (j:=3) rfl,HGx.out.box.cell (j:=4) rfl,HGx.out.box.cell (j:=5) rfl,HGx.out.box.cell (j:=6) rfl⟩⟩ ?_
    clear hK K
    refine ttq [] 25 ?_
    refine ttq [] 26 ?_
    refine ttq [] 27 ?_
    refine ttq [] 28 ?_
    refine soq 29 (fun K hK=> ?_)
    rw[if_pos (by rfl)]
    refine op_store_bex laySt (.tmp 158) (.tmp 156) rfl gs ⟨u1,u2,u3,⟨b1,m1,d1⟩,⟨b2,m2,d2⟩,⟨b3,m3,d3⟩,⟨b4,m4,d4⟩⟩ _ rfl rfl HGx.out rfl ?_
    intro w4 hx hw
    have hgs3:gs< w3.heap.size:=HGx.out.lt
    replace HN:=Lib.hid (HN.out.wrote HGx.out (misfits_st _) hw)
    replace HGx:=Lib.hid hx
    replace HCx:=Lib.hid (HCx.out.wrote hw (fun e=>hne e.symm))
    replace HAx:=Lib.hid (HAx.out.wrote hw (by omega))
    replace HTx:=Lib.hid (HTx.out.wrote hw (by omega))
    replace HOx:=Lib.hid (HOx.out.wrote hw)
    have hz4a:=Nat.le_of_eq hw.size.symm
    have hz4b:=Nat.le_of_eq hw.size
    clear hx hw
    refine hK.out _ _ ⟨⟨HCx.out.box.cell (j:=2) rfl,HCx.out.box.cell (j:=3) rfl,HCx.out.box.cell (j:=6) rfl,HCx.out.box.cell (j:=7) rfl,HCx.out.box.cell (j:=9) rfl⟩,fun h=>absurd h (by decide)⟩ ?_
    clear hK K
    refine soq 30 (fun K hK=> ?_)
    rw[if_pos (by rfl)]
    refine op_store_bex layAns (.tmp 11) (.tmp 157) rfl wr.heap.size ⟨ae,ar,ab,al,az⟩ _ rfl rfl HTx.out rfl ?_
    intro w5 hx hw
    replace HN:=Lib.hid (HN.out.wrote HTx.out (misfits_ans _) hw)
    replace HGx:=Lib.hid (HGx.out.wrote hw (by omega))
    replace HCx:=Lib.hid (HCx.out.wrote hw (by omega))
    replace HAx:=Lib.hid (HAx.out.wrote hw (by omega))
    replace HOx:=Lib.hid (HOx.out.wroteNew hw (by omega))
    replace HTx:=Lib.hid hx
    have hz5a:=Nat.le_of_eq hw.size.symm
    have hz5b:=Nat.le_of_eq hw.size
    clear hx hw
    refine hK.out _ _ ⟨⟨HCx.out.box.cell (j:=2) rfl,HCx.out.box.cell (j:=3) rfl,HCx.out.box.cell (j:=6) rfl,HCx.out.box.cell (j:=7) rfl,HCx.out.box.cell (j:=9) rfl⟩,fun h=>absurd h (by decide)⟩ ?_
    clear hK K
    refine sdq ?_
    go_wp2
    refine wrq (fun l w'=>(w'.cell? ⟨gc,2,none⟩=some (.int .i64 c.number)∧w'.cell? ⟨gc,6,none⟩=some (.int .i64 c.shaper)∧w'.cell? ⟨gc,7,none⟩=some (.int .i64 c.epoch)∧w'.cell? ⟨wr.heap.size,0,none⟩=some (.int .i64 ae)∧w'.cell? ⟨wr.heap.size,1,none⟩=some (.int .i64 ar)∧w'.cell? ⟨wr.heap.size,2,none⟩=some (.int .i64 ab)∧w'.cell? ⟨wr.heap.size,3,none⟩=some (.int .i64 al)∧w'.cell? ⟨wr.heap.size,4,none⟩=some (.int .i64 az))) ?_
    refine toS ⟨HCx.out.box.cell (j:=2) rfl,HCx.out.box.cell (j:=6) rfl,HCx.out.box.cell (j:=7) rfl,HTx.out.box.cell (j:=0) rfl,HTx.out.box.cell (j:=1) rfl,HTx.out.box.cell (j:=2) rfl,HTx.out.box.cell (j:=3) rfl,HTx.out.box.cell (j:=4) rfl⟩ ?_
    refine tkq 0 ?_
    refine tkq 1 ?_
    refine tkq 2 ?_
    refine tkq 3 ?_
    refine tkq 4 ?_
    refine tkq 5 ?_
    refine tkq 6 ?_
    refine tkq 7 ?_
    refine tkq 8 ?_
    refine tkq 9 ?_
    refine tkq 10 ?_
    refine tkq 11 ?_
    refine tkq 12 ?_
    refine tkq 13 ?_
    refine soq 14 (fun K hK=> ?_)
    go_simp
    obtain⟨w6,hw6⟩:∃x,x=(w5.alloc (.cells #[.int .i64 0,.int .i64 0,.int .i64 0,.int .i64 0,.int .i64 0,.int .i64 0,.int .i64 0,.int .i64 0] 66)).drew:=⟨_,rfl⟩
    rw[←hw6]
    have hb:Below w5.heap.size w5 w6:=by rw[hw6];exact((Below.refl _ _).alloc (Nat.le_refl _) _).drew
    have HDx:Hid (Bex w6 w5.heap.size zDsk.cells):=by rw[hw6];exact(Bex.new w5 zDsk.cells _).drew
    have hgc5:gc< w5.heap.size:=HCx.out.lt
    have hA5:=HAx.out.lt
    have hT5:=HTx.out.lt
    replace HGx:=Lib.hid (HGx.out.next hb)
    replace HCx:=Lib.hid (HCx.out.next hb)
    replace HAx:=Lib.hid (HAx.out.next hb)
    replace HTx:=Lib.hid (HTx.out.next hb)
    replace HOx:=Lib.hid (HOx.out.next hb)
    have HB6:=Lib.hid hb
    have hz6:w5.heap.size< w6.heap.size:=HDx.out.lt
    clear hb hw6
    refine hK.out _ _ ⟨HCx.out.box.cell (j:=2) rfl,HCx.out.box.cell (j:=6) rfl,HCx.out.box.cell (j:=7) rfl,HTx.out.box.cell (j:=0) rfl,HTx.out.box.cell (j:=1) rfl,HTx.out.box.cell (j:=2) rfl,HTx.out.box.cell (j:=3) rfl,HTx.out.box.cell (j:=4) rfl⟩ ?_
    clear hK K
    refine soq 15 (fun K hK=> ?_)
    rw[if_pos (by rfl)]
    refine op_store_bex layDsk (.tmp 12) (.tmp 172) rfl w5.heap.size ⟨c.shaper,c.epoch,c.number,⟨ae,ar,ab,al,az⟩⟩ _ rfl rfl HDx.out rfl ?_
    intro w7 hx hw
    have hgs5:gs< w5.heap.size:=by omega
    replace HN:=Lib.hid (HN.out.below (HB6.out.trans (hw.below _ (Nat.le_refl _))))
    replace HGx:=Lib.hid (HGx.out.wrote hw (by omega))
    replace HCx:=Lib.hid (HCx.out.wrote hw (by omega))
    replace HAx:=Lib.hid (HAx.out.wrote hw (by omega))
    replace HTx:=Lib.hid (HTx.out.wrote hw (by omega))
    replace HOx:=Lib.hid (HOx.out.wroteNew hw (by omega))
    replace HDx:=Lib.hid hx
    have hz7a:=Nat.le_of_eq hw.size.symm
    have hz7b:=Nat.le_of_eq hw.size
    clear hx hw HB6
    refine hK.out _ _ ⟨HCx.out.box.cell (j:=2) rfl,HCx.out.box.cell (j:=6) rfl,HCx.out.box.cell (j:=7) rfl,HTx.out.box.cell (j:=0) rfl,HTx.out.box.cell (j:=1) rfl,HTx.out.box.cell (j:=2) rfl,HTx.out.box.cell (j:=3) rfl,HTx.out.box.cell (j:=4) rfl⟩ ?_
    clear hK K
    refine sdq ?_
    go_wp2
    have hdl:gst.dsks= s.dsks:=by have:=HDK.out;(try simp only at this);exact this
    have hlen4:gst.dsks.length= m4:=HN.out.dsk.len
    have hjg:j< gst.dsks.length:=by rw[hdl];exact hj
    have hjm:j< m4:=by omega
    have hsml:gst.dsks.length≤ 301:=by rw[hdl];exact hsm4
    have hgb:gs< min B2 w7.heap.size:=by have:=HGx.out.lt;omega
    have hab:w.heap.size< min B2 w7.heap.size:=by have:=HAx.out.lt;omega
    have htb:wr.heap.size< min B2 w7.heap.size:=by have:=HTx.out.lt;omega
    obtain⟨gD,hgDB,hgD1,hgD2,_⟩:=OwnSli.mine (a:=b4) (n:=m4) (c:=d4) ((HN.out.dsk.own hB30).base (B0:=min B2 w7.heap.size) (Nat.min_le_left _ _)) hlen4 (Nat.min_le_right _ _)
    have hne0:gst.dsks≠ []:=by intro e;rw[e]at hjg;simp at hjg
    obtain⟨hb4,hgDlt⟩:=hgD1 hne0
    have hmine:=hgD2 hne0
    subst hb4
    have HMI:=Lib.hid hmine
    have HINS:Hid (insK Desk.shaper ⟨c.shaper,c.epoch,c.number,⟨ae,ar,ab,al,az⟩⟩ gst.dsks=gst.dsks.set j ⟨c.shaper,c.epoch,c.number,⟨ae,ar,ab,al,az⟩⟩):=insK_here (x:=(⟨c.shaper,c.epoch,c.number,⟨ae,ar,ab,al,az⟩⟩:Desk)) (by rw[hdl];exact HOK5.out) hjg (by have h1:gst.dsks[j]=s.dsks[j]:=(by simp only[hdl]);rw[h1];exact hsj')
    clear hmine hgD1 hgD2 hne0 hdl hsj'
    refine wrq (fun l w'=>(True)∧Till 7 l (w'.cell? ⟨gs,6,none⟩=some (.slice (some ⟨gD,0,none⟩) m4 d4)∧w'.cell? ⟨w5.heap.size,0,none⟩=some (.int .i64 c.shaper)∧w'.cell? ⟨w5.heap.size,1,none⟩=some (.int .i64 c.epoch)∧w'.cell? ⟨w5.heap.size,2,none⟩=some (.int .i64 c.number)∧w'.cell? ⟨w5.heap.size,3,none⟩=some (.int .i64 ae)∧w'.cell? ⟨w5.heap.size,4,none⟩=some (.int .i64 ar)∧w'.cell? ⟨w5.heap.size,5,none⟩=some (.int .i64 ab)∧w'.cell? ⟨w5.heap.size,6,none⟩=some (.int .i64 al)∧w'.cell? ⟨w5.heap.size,7,none⟩=some (.int .i64 az))) ?_
    refine toS ⟨trivial,fun _=>⟨HGx.out.box.cell (j:=6) rfl,HDx.out.box.cell (j:=0) rfl,HDx.out.box.cell (j:=1) rfl,HDx.out.box.cell (j:=2) rfl,HDx.out.box.cell (j:=3) rfl,HDx.out.box.cell (j:=4) rfl,HDx.out.box.cell (j:=5) rfl,HDx.out.box.cell (j:=6) rfl,HDx.out.box.cell (j:=7) rfl⟩⟩ ?_
    refine ttq [] 0 ?_
    refine ttq [] 1 ?_
    refine ttq [] 2 ?_
    refine ttq [7] 3 ?_
    refine ttq [] 4 ?_
    refine ttq [7] 5 ?_
    refine ttq [] 6 ?_
    refine soq 7 (fun K hK=> ?_)
    rw[if_pos (by rfl)]
    refine op_store_mine layDsk (.tmp 180) (.tmp 179) rfl (o:=0) (w:=w7.drew) (B:=min B2 w7.heap.size) (g:=gD) (xs:=gst.dsks) (by exact HMI.out) j hjg ⟨c.shaper,c.epoch,c.number,⟨ae,ar,ab,al,az⟩⟩ (by rw[Nat.zero_add];rfl) rfl ?_
    intro w8 hm8 hw8z
    have hw8:Wrote gD w7 w8:=⟨fun B hB=>(have h:=hw8z.below B hB;⟨h.os,h.tape,h.output,h.size,h.block⟩),hw8z.size,hw8z.keep⟩
    have HSx:Hid (StAt w8 0 ⟨u1,u2,u3,⟨b1,m1,d1⟩,⟨b2,m2,d2⟩,⟨b3,m3,d3⟩,⟨some ⟨gD,0,none⟩,m4,d4⟩⟩ {gst with dsks:=insK Desk.shaper ⟨c.shaper,c.epoch,c.number,⟨ae,ar,ab,al,az⟩⟩ gst.dsks}):=by rw[HINS.out];exact set_dsk HN.out HAP.out hw8 (by rw[List.length_set];exact hlen4) hm8
    replace HGx:=Lib.hid (HGx.out.wrote hw8 (by omega))
    replace HAx:=Lib.hid (HAx.out.wrote hw8 (by omega))
    replace HTx:=Lib.hid (HTx.out.wrote hw8 (by omega))
    replace HOx:=Lib.hid (HOx.out.wroteNew hw8 (by omega))
    have hgs8:=HGx.out.lt
    clear hm8 hw8 hw8z
    refine hK.out _ _ ⟨trivial,fun h=>absurd h (by decide)⟩ ?_
    clear hK K
    refine sdq ?_
    go_wp2_with(first|((with_reducible refine at_load 40 (.tmp 11) ?_);refine wpList_load_as layAns rfl (.tmp 11) rfl wr.heap.size 0 rfl ⟨ae,ar,ab,al,az⟩ (Ans.agg ⟨ae,ar,ab,al,az⟩) rfl HTx.out.box.range ?_)|((with_reducible refine at_store 40 (.tmp 4) (.tmp 181) ?_);refine wpList_store_bex layAns rfl (.tmp 4) (.tmp 181) rfl w.heap.size ⟨ae,ar,ab,al,az⟩ _ rfl rfl HAx.out rfl ?_;intro wz hxz hwz;have HXZ:=Lib.hid hxz;have HWZ:=Lib.hid hwz;clear hxz hwz))
    obtain⟨j0,j1,j2,j3,j4⟩:=ans_cells HXZ.out
    refine bodyPost_ret (v:=Ans.agg ⟨ae,ar,ab,al,az⟩) (by simp[results,Tryz.results69,Ans.err,go_sem,j0,j1,j2,j3,j4]) rfl ?_
    rw[HQ.out]
    exact⟨rfl,_,HGx.out.wrote HWZ.out (by omega),HSx.out.wrote HAx.out (misfits_ans _) HWZ.out,HOx.out.wroteNew HWZ.out (Nat.le_refl _)⟩
   ·have q1:decide (c.epoch<y1)=false:= decide_eq_false (by omega)
    have q2:(c.epoch==y1)=false:= by rw[beq_eq_false_iff_ne];exact hep
    clear hep hno hnt
    go_upto_region 12 with(refine wpList_getOkI keyWh Tryz.underlying156 Tryz.underlying3 zero_int rfl (.tmp 58) (.tmp 63) rfl w1.heap.size s.dsks.length f rfl HM.out c.shaper HSH.out rfl ?_)
    go_quiet (fail)
    go_wp2
    go_quiet (fail)
    go_wp2
    go_quiet (fail)
    go_upto_region 18 with fail
    refine(fun(h:∀n,Code.wp Tryz.prog _ _ _ ((World.drewN wr n).alloc _))=>h _) (fun nn=> ?_)
    obtain⟨w2,hw2⟩:∃x,x=(World.drewN wr nn).alloc (.cells #[.int .i64 0,.int .i64 0,.int .i64 0,.int .i64 0,.int .i64 0] 40):=⟨_,rfl⟩
    rw[←hw2]
    have hb:Below wr.heap.size wr w2:=by rw[hw2];exact(below_drewN (Below.refl wr.heap.size wr) nn).alloc (Nat.le_refl wr.heap.size) _
    have HTx:Hid (Bex w2 wr.heap.size zAns.cells):=by rw[hw2];exact ans_new (World.drewN wr nn)
    replace HBx:=Lib.hid (HBx.out.trans (hb.mono HBx.out.size))
    replace HGx:=Lib.hid (HGx.out.next hb)
    replace HSx:=Lib.hid (HSx.out.below hb)
    replace HAx:=Lib.hid (HAx.out.next hb)
    replace HOx:=Lib.hid (HOx.out.next hb)
    have hm2sz:=hmwr
    have hgTw:w.heap.size< wr.heap.size:=Nat.lt_of_lt_of_le hz1 hm2sz
    have hwr2:wr.heap.size< w2.heap.size:=HTx.out.lt
    clear hb hw2 k0 k1 k2 k6 r1 r2
    refine wrq (fun l w'=>(w'.cell? ⟨gc,2,none⟩=some (.int .i64 c.number)∧w'.cell? ⟨gc,3,none⟩=some (.int .i64 c.tenant)∧w'.cell? ⟨gc,6,none⟩=some (.int .i64 c.shaper)∧w'.cell? ⟨gc,7,none⟩=some (.int .i64 c.epoch)∧w'.cell? ⟨gc,9,none⟩=some (.int .i64 c.size))∧Till 29 l (w'.cell? ⟨gs,0,none⟩=some (.int .i64 t1)∧w'.cell? ⟨gs,1,none⟩=some (.int .i64 t2)∧w'.cell? ⟨gs,2,none⟩=some (.int .i64 t3)∧w'.cell? ⟨gs,3,none⟩=some (.slice a1 n1 c1)∧w'.cell? ⟨gs,4,none⟩=some (.slice a2 n2 c2)∧w'.cell? ⟨gs,5,none⟩=some (.slice a3 n3 c3)∧w'.cell? ⟨gs,6,none⟩=some (.slice (some ⟨b,o,none⟩) s.dsks.length c4))) ?_
    refine toS ⟨⟨(HC0.out.next HBx.out).box.box.cell (j:=2) rfl,(HC0.out.next HBx.out).box.box.cell (j:=3) rfl,(HC0.out.next HBx.out).box.box.cell (j:=6) rfl,(HC0.out.next HBx.out).box.box.cell (j:=7) rfl,(HC0.out.next HBx.out).box.box.cell (j:=9) rfl⟩,fun _=>⟨HGx.out.box.cell (j:=0) rfl,HGx.out.box.cell (j:=1) rfl,HGx.out.box.cell (j:=2) rfl,HGx.out.box.cell (j:=3) rfl,HGx.out.box.cell (j:=4) rfl,HGx.out.box.cell (j:=5) rfl,HGx.out.box.cell (j:=6) rfl⟩⟩ ?_
    refine ttq [] 0 ?_
    refine ttq [] 1 ?_
    refine ttq [] 2 ?_
    refine ttq [29] 3 ?_
    refine ttq [] 4 ?_
    refine ttq [] 5 ?_
    refine ttq [] 6 ?_
    refine ttq [29] 7 ?_
    refine ttq [] 8 ?_
    refine ttq [] 9 ?_
    refine ttq [] 10 ?_
    refine ttq [29] 11 ?_
    refine ttq [] 12 ?_
    refine ttq [] 13 ?_
    refine ttq [] 14 ?_
    refine ttq [29] 15 ?_
    refine ttq [] 16 ?_
    refine ttq [] 17 ?_
    refine ttq [] 18 ?_
    refine ttq [29] 19 ?_
    refine ttq [] 20 ?_
    refine ttq [] 21 ?_
    refine ttq [] 22 ?_
    refine ttq [29] 23 ?_
    refine soq 24 (fun K hK=> ?_)
    go_simp
    go_at_call 118
    with_reducible refine(grant_new s _ 0 c.shaper c.epoch c.number c.tenant c.size w2.drew (HSx.out.below ((Below.refl _ _).drew)) (by omega) (by omega) (by omega) (by omega)).mono ?_
    rintro e w3 ⟨⟨u1,u2,u3,⟨b1,m1,d1⟩,⟨b2,m2,d2⟩,⟨b3,m3,d3⟩,⟨b4,m4,d4⟩⟩,B2,rfl,hst,hB2,hbz⟩
    have hb:Below w2.heap.size w2 w3:=⟨hbz.os,hbz.tape,hbz.output,hbz.size,hbz.block⟩
    obtain⟨⟨hB3d,hB30⟩,hap⟩:=hB2 (grant_ok HOK4.out _ _ _ _ _).1
    have hB3:w2.heap.size≤ B2:=hB3d
    clear hB3d
    have HAP:=Lib.hid hap
    clear hap
    have HDK:Hid ((grantS s c.shaper c.epoch c.number c.tenant c.size).1.dsks=s.dsks):=(grant_rest s _ _ _ _ _).2.2.2
    have HN:=Lib.hid hst
    have HCx:=Lib.hid ((HC0.out.next HBx.out).box.next hb)
    replace HGx:=Lib.hid (HGx.out.next hb)
    replace HAx:=Lib.hid (HAx.out.next hb)
    replace HTx:=Lib.hid (HTx.out.next hb)
    replace HOx:=Lib.hid (HOx.out.next hb)
    have hz3:=hb.size
    clear hb hbz hst hB2
    have HQ:Hid (grantNew s c=({(grantS s c.shaper c.epoch c.number c.tenant c.size).1 with dsks:=insK Desk.shaper ⟨c.shaper,c.epoch,c.number,(grantS s c.shaper c.epoch c.number c.tenant c.size).2⟩ (grantS s c.shaper c.epoch c.number c.tenant c.size).1.dsks},(grantS s c.shaper c.epoch c.number c.tenant c.size).2)):=rfl
    generalize grantS s c.shaper c.epoch c.number c.tenant c.size=gr at HN HQ HDK
    obtain⟨gst,⟨ae,ar,ab,al,az⟩⟩:=gr
    refine hK.out _ _ ⟨⟨HCx.out.box.cell (j:=2) rfl,HCx.out.box.cell (j:=3) rfl,HCx.out.box.cell (j:=6) rfl,HCx.out.box.cell (j:=7) rfl,HCx.out.box.cell (j:=9) rfl⟩,fun _=>⟨HGx.out.box.cell (j:=0) rfl,HGx.out.box.cell (j:=1) rfl,HGx.out.box.cell (j:=2) rfl,HGx.out.box.cell (j:=3) rfl,HGx.out.box.cell (j:=4) rfl,HGx.out.box.cell (j:=5) rfl,HGx.out.box.cell (j:=6) rfl⟩⟩ ?_
    clear hK K
    refine ttq [] 25 ?_
    refine ttq [] 26 ?_
    refine ttq [] 27 ?_
    refine ttq [] 28 ?_
    refine soq 29 (fun K hK=> ?_)
    rw[if_pos (by rfl)]
    refine op_store_bex laySt (.tmp 158) (.tmp 156) rfl gs ⟨u1,u2,u3,⟨b1,m1,d1⟩,⟨b2,m2,d2⟩,⟨b3,m3,d3⟩,⟨b4,m4,d4⟩⟩ _ rfl rfl HGx.out rfl ?_
    intro w4 hx hw
    have hgs3:gs< w3.heap.size:=HGx.out.lt
    replace HN:=Lib.hid (HN.out.wrote HGx.out (misfits_st _) hw)
    replace HGx:=Lib.hid hx
    replace HCx:=Lib.hid (HCx.out.wrote hw (fun e=>hne e.symm))
    replace HAx:=Lib.hid (HAx.out.wrote hw (by omega))
    replace HTx:=Lib.hid (HTx.out.wrote hw (by omega))
    replace HOx:=Lib.hid (HOx.out.wrote hw)
    have hz4a:=Nat.le_of_eq hw.size.symm
    have hz4b:=Nat.le_of_eq hw.size
    clear hx hw
    refine hK.out _ _ ⟨⟨HCx.out.box.cell (j:=2) rfl,HCx.out.box.cell (j:=3) rfl,HCx.out.box.cell (j:=6) rfl,HCx.out.box.cell (j:=7) rfl,HCx.out.box.cell (j:=9) rfl⟩,fun h=>absurd h (by decide)⟩ ?_
    clear hK K
    refine soq 30 (fun K hK=> ?_)
    rw[if_pos (by rfl)]
    refine op_store_bex layAns (.tmp 11) (.tmp 157) rfl wr.heap.size ⟨ae,ar,ab,al,az⟩ _ rfl rfl HTx.out rfl ?_
    intro w5 hx hw
    replace HN:=Lib.hid (HN.out.wrote HTx.out (misfits_ans _) hw)
    replace HGx:=Lib.hid (HGx.out.wrote hw (by omega))
    replace HCx:=Lib.hid (HCx.out.wrote hw (by omega))
    replace HAx:=Lib.hid (HAx.out.wrote hw (by omega))
    replace HOx:=Lib.hid (HOx.out.wroteNew hw (by omega))
    replace HTx:=Lib.hid hx
    have hz5a:=Nat.le_of_eq hw.size.symm
    have hz5b:=Nat.le_of_eq hw.size
    clear hx hw
    refine hK.out _ _ ⟨⟨HCx.out.box.cell (j:=2) rfl,HCx.out.box.cell (j:=3) rfl,HCx.out.box.cell (j:=6) rfl,HCx.out.box.cell (j:=7) rfl,HCx.out.box.cell (j:=9) rfl⟩,fun h=>absurd h (by decide)⟩ ?_
    clear hK K
    refine sdq ?_
    go_wp2
    refine wrq (fun l w'=>(w'.cell? ⟨gc,2,none⟩=some (.int .i64 c.number)∧w'.cell? ⟨gc,6,none⟩=some (.int .i64 c.shaper)∧w'.cell? ⟨gc,7,none⟩=some (.int .i64 c.epoch)∧w'.cell? ⟨wr.heap.size,0,none⟩=some (.int .i64 ae)∧w'.cell? ⟨wr.heap.size,1,none⟩=some (.int .i64 ar)∧w'.cell? ⟨wr.heap.size,2,none⟩=some (.int .i64 ab)∧w'.cell? ⟨wr.heap.size,3,none⟩=some (.int .i64 al)∧w'.cell? ⟨wr.heap.size,4,none⟩=some (.int .i64 az))) ?_
    refine toS ⟨HCx.out.box.cell (j:=2) rfl,HCx.out.box.cell (j:=6) rfl,HCx.out.box.cell (j:=7) rfl,HTx.out.box.cell (j:=0) rfl,HTx.out.box.cell (j:=1) rfl,HTx.out.box.cell (j:=2) rfl,HTx.out.box.cell (j:=3) rfl,HTx.out.box.cell (j:=4) rfl⟩ ?_
    refine tkq 0 ?_
    refine tkq 1 ?_
    refine tkq 2 ?_
    refine tkq 3 ?_
    refine tkq 4 ?_
    refine tkq 5 ?_
    refine tkq 6 ?_
    refine tkq 7 ?_
    refine tkq 8 ?_
    refine tkq 9 ?_
    refine tkq 10 ?_
    refine tkq 11 ?_
    refine tkq 12 ?_
    refine tkq 13 ?_
    refine soq 14 (fun K hK=> ?_)
    go_simp
    obtain⟨w6,hw6⟩:∃x,x=(w5.alloc (.cells #[.int .i64 0,.int .i64 0,.int .i64 0,.int .i64 0,.int .i64 0,.int .i64 0,.int .i64 0,.int .i64 0] 66)).drew:=⟨_,rfl⟩
    rw[←hw6]
    have hb:Below w5.heap.size w5 w6:=by rw[hw6];exact((Below.refl _ _).alloc (Nat.le_refl _) _).drew
    have HDx:Hid (Bex w6 w5.heap.size zDsk.cells):=by rw[hw6];exact(Bex.new w5 zDsk.cells _).drew
    have hgc5:gc< w5.heap.size:=HCx.out.lt
    have hA5:=HAx.out.lt
    have hT5:=HTx.out.lt
    replace HGx:=Lib.hid (HGx.out.next hb)
    replace HCx:=Lib.hid (HCx.out.next hb)
    replace HAx:=Lib.hid (HAx.out.next hb)
    replace HTx:=Lib.hid (HTx.out.next hb)
    replace HOx:=Lib.hid (HOx.out.next hb)
    have HB6:=Lib.hid hb
    have hz6:w5.heap.size< w6.heap.size:=HDx.out.lt
    clear hb hw6
    refine hK.out _ _ ⟨HCx.out.box.cell (j:=2) rfl,HCx.out.box.cell (j:=6) rfl,HCx.out.box.cell (j:=7) rfl,HTx.out.box.cell (j:=0) rfl,HTx.out.box.cell (j:=1) rfl,HTx.out.box.cell (j:=2) rfl,HTx.out.box.cell (j:=3) rfl,HTx.out.box.cell (j:=4) rfl⟩ ?_
    clear hK K
    refine soq 15 (fun K hK=> ?_)
    rw[if_pos (by rfl)]
    refine op_store_bex layDsk (.tmp 12) (.tmp 172) rfl w5.heap.size ⟨c.shaper,c.epoch,c.number,⟨ae,ar,ab,al,az⟩⟩ _ rfl rfl HDx.out rfl ?_
    intro w7 hx hw
    have hgs5:gs< w5.heap.size:=by omega
    replace HN:=Lib.hid (HN.out.below (HB6.out.trans (hw.below _ (Nat.le_refl _))))
    replace HGx:=Lib.hid (HGx.out.wrote hw (by omega))
    replace HCx:=Lib.hid (HCx.out.wrote hw (by omega))
    replace HAx:=Lib.hid (HAx.out.wrote hw (by omega))
    replace HTx:=Lib.hid (HTx.out.wrote hw (by omega))
    replace HOx:=Lib.hid (HOx.out.wroteNew hw (by omega))
    replace HDx:=Lib.hid hx
    have hz7a:=Nat.le_of_eq hw.size.symm
    have hz7b:=Nat.le_of_eq hw.size
    clear hx hw HB6
    refine hK.out _ _ ⟨HCx.out.box.cell (j:=2) rfl,HCx.out.box.cell (j:=6) rfl,HCx.out.box.cell (j:=7) rfl,HTx.out.box.cell (j:=0) rfl,HTx.out.box.cell (j:=1) rfl,HTx.out.box.cell (j:=2) rfl,HTx.out.box.cell (j:=3) rfl,HTx.out.box.cell (j:=4) rfl⟩ ?_
    clear hK K
    refine sdq ?_
    go_wp2
    have hdl:gst.dsks= s.dsks:=by have:=HDK.out;(try simp only at this);exact this
    have hlen4:gst.dsks.length= m4:=HN.out.dsk.len
    have hjg:j< gst.dsks.length:=by rw[hdl];exact hj
    have hjm:j< m4:=by omega
    have hsml:gst.dsks.length≤ 301:=by rw[hdl];exact hsm4
    have hgb:gs< min B2 w7.heap.size:=by have:=HGx.out.lt;omega
    have hab:w.heap.size< min B2 w7.heap.size:=by have:=HAx.out.lt;omega
    have htb:wr.heap.size< min B2 w7.heap.size:=by have:=HTx.out.lt;omega
    obtain⟨gD,hgDB,hgD1,hgD2,_⟩:=OwnSli.mine (a:=b4) (n:=m4) (c:=d4) ((HN.out.dsk.own hB30).base (B0:=min B2 w7.heap.size) (Nat.min_le_left _ _)) hlen4 (Nat.min_le_right _ _)
    have hne0:gst.dsks≠ []:=by intro e;rw[e]at hjg;simp at hjg
    obtain⟨hb4,hgDlt⟩:=hgD1 hne0
    have hmine:=hgD2 hne0
    subst hb4
    have HMI:=Lib.hid hmine
    have HINS:Hid (insK Desk.shaper ⟨c.shaper,c.epoch,c.number,⟨ae,ar,ab,al,az⟩⟩ gst.dsks=gst.dsks.set j ⟨c.shaper,c.epoch,c.number,⟨ae,ar,ab,al,az⟩⟩):=insK_here (x:=(⟨c.shaper,c.epoch,c.number,⟨ae,ar,ab,al,az⟩⟩:Desk)) (by rw[hdl];exact HOK5.out) hjg (by have h1:gst.dsks[j]=s.dsks[j]:=(by simp only[hdl]);rw[h1];exact hsj')
    clear hmine hgD1 hgD2 hne0 hdl hsj'
    refine wrq (fun l w'=>(True)∧Till 7 l (w'.cell? ⟨gs,6,none⟩=some (.slice (some ⟨gD,0,none⟩) m4 d4)∧w'.cell? ⟨w5.heap.size,0,none⟩=some (.int .i64 c.shaper)∧w'.cell? ⟨w5.heap.size,1,none⟩=some (.int .i64 c.epoch)∧w'.cell? ⟨w5.heap.size,2,none⟩=some (.int .i64 c.number)∧w'.cell? ⟨w5.heap.size,3,none⟩=some (.int .i64 ae)∧w'.cell? ⟨w5.heap.size,4,none⟩=some (.int .i64 ar)∧w'.cell? ⟨w5.heap.size,5,none⟩=some (.int .i64 ab)∧w'.cell? ⟨w5.heap.size,6,none⟩=some (.int .i64 al)∧w'.cell? ⟨w5.heap.size,7,none⟩=some (.int .i64 az))) ?_
    refine toS ⟨trivial,fun _=>⟨HGx.out.box.cell (j:=6) rfl,HDx.out.box.cell (j:=0) rfl,HDx.out.box.cell (j:=1) rfl,HDx.out.box.cell (j:=2) rfl,HDx.out.box.cell (j:=3) rfl,HDx.out.box.cell (j:=4) rfl,HDx.out.box.cell (j:=5) rfl,HDx.out.box.cell (j:=6) rfl,HDx.out.box.cell (j:=7) rfl⟩⟩ ?_
    refine ttq [] 0 ?_
    refine ttq [] 1 ?_
    refine ttq [] 2 ?_
    refine ttq [7] 3 ?_
    refine ttq [] 4 ?_
    refine ttq [7] 5 ?_
    refine ttq [] 6 ?_
    refine soq 7 (fun K hK=> ?_)
    rw[if_pos (by rfl)]
    refine op_store_mine layDsk (.tmp 180) (.tmp 179) rfl (o:=0) (w:=w7.drew) (B:=min B2 w7.heap.size) (g:=gD) (xs:=gst.dsks) (by exact HMI.out) j hjg ⟨c.shaper,c.epoch,c.number,⟨ae,ar,ab,al,az⟩⟩ (by rw[Nat.zero_add];rfl) rfl ?_
    intro w8 hm8 hw8z
    have hw8:Wrote gD w7 w8:=⟨fun B hB=>(have h:=hw8z.below B hB;⟨h.os,h.tape,h.output,h.size,h.block⟩),hw8z.size,hw8z.keep⟩
    have HSx:Hid (StAt w8 0 ⟨u1,u2,u3,⟨b1,m1,d1⟩,⟨b2,m2,d2⟩,⟨b3,m3,d3⟩,⟨some ⟨gD,0,none⟩,m4,d4⟩⟩ {gst with dsks:=insK Desk.shaper ⟨c.shaper,c.epoch,c.number,⟨ae,ar,ab,al,az⟩⟩ gst.dsks}):=by rw[HINS.out];exact set_dsk HN.out HAP.out hw8 (by rw[List.length_set];exact hlen4) hm8
    replace HGx:=Lib.hid (HGx.out.wrote hw8 (by omega))
    replace HAx:=Lib.hid (HAx.out.wrote hw8 (by omega))
    replace HTx:=Lib.hid (HTx.out.wrote hw8 (by omega))
    replace HOx:=Lib.hid (HOx.out.wroteNew hw8 (by omega))
    have hgs8:=HGx.out.lt
    clear hm8 hw8 hw8z
    refine hK.out _ _ ⟨trivial,fun h=>absurd h (by decide)⟩ ?_
    clear hK K
    refine sdq ?_
    go_wp2_with(first|((with_reducible refine at_load 40 (.tmp 11) ?_);refine wpList_load_as layAns rfl (.tmp 11) rfl wr.heap.size 0 rfl ⟨ae,ar,ab,al,az⟩ (Ans.agg ⟨ae,ar,ab,al,az⟩) rfl HTx.out.box.range ?_)|((with_reducible refine at_store 40 (.tmp 4) (.tmp 181) ?_);refine wpList_store_bex layAns rfl (.tmp 4) (.tmp 181) rfl w.heap.size ⟨ae,ar,ab,al,az⟩ _ rfl rfl HAx.out rfl ?_;intro wz hxz hwz;have HXZ:=Lib.hid hxz;have HWZ:=Lib.hid hwz;clear hxz hwz))
    obtain⟨j0,j1,j2,j3,j4⟩:=ans_cells HXZ.out
    refine bodyPost_ret (v:=Ans.agg ⟨ae,ar,ab,al,az⟩) (by simp[results,Tryz.results69,Ans.err,go_sem,j0,j1,j2,j3,j4]) rfl ?_
    rw[HQ.out]
    exact⟨rfl,_,HGx.out.wrote HWZ.out (by omega),HSx.out.wrote HAx.out (misfits_ans _) HWZ.out,HOx.out.wroteNew HWZ.out (Nat.le_refl _)⟩
end Go.Proofs.YtfdmhpohfjbpfaaGreat
