import Derived.Test.YtfdmhpohfjbpfaaGreatSq16
set_option linter.unusedVariables false
set_option linter.unusedSimpArgs false
namespace Go.Proofs.YtfdmhpohfjbpfaaGreat
open Go.ChangeShapes Go.WideShapes Go.ChangeAt Go.RowKit Go.Maps
set_option maxRecDepth 100000
theorem grant1_any (x y:Desk) (w:World) (h1:0≤ x.shaper) (h2:x.shaper≤ 1000000) (h3:0≤ y.shaper) (h4:y.shaper≤ 1000000):
 Calls Tryz.prog 120 #[x.agg,y.agg] w fun e w'=>e= .returned (.int .i64 (x.shaper-y.shaper))∧Below w.heap.size w w':=by
 obtain⟨xc,xn,xm,xa⟩:=x
 obtain⟨yc,yn,ym,ya⟩:=y
 simp only at h1 h2 h3 h4
 go_enter Tryz.func120,Tryz.ntmps120
 go_wp2
 go_returns
 exact⟨rfl,belo⟩
theorem enter_sgrant1 (args:Array Value) (w:World):(callFunc 120 args).run Tryz.prog w= .ok (.enter 120 args) w:=by kernel_rfl
theorem Only.nextB {w w' w'':World} {g B:Nat} (h:Only g w w') (hb:Below B w' w'') (hB:w.heap.size≤ B):Only g w w'':=
 ⟨hb.os.trans h.os,hb.tape.trans h.tape,hb.output.trans h.output,Nat.le_trans h.size hb.size,fun k hk hne=>(hb.block k (by omega)).trans (h.block k hk hne)⟩
theorem ins_dsk {w9 w10 w11:World} {B g:Nat} {u1 u2 u3:Int} {l1 l2 l3 l4:Sli} {s:St} {ds:List Desk} {x:Option Addr} {y m:Nat} (h:StAt w9 B ⟨u1,u2,u3,l1,l2,l3,l4⟩ s) (ho:OthersDsk l4.a w9 w10) (hap:ApD ⟨u1,u2,u3,l1,l2,l3,l4⟩)
 (hbx:Bex w10 g (Raw.cells ⟨u1,u2,u3,l1,l2,l3,l4⟩)) (hw:Wrote g w10 w11) (hl:ds.length= m) (hle:m≤ y) (hnil:x= none→y= 0) (hrow:LRow layDsk w10 x ds):StAt w11 0 ⟨u1,u2,u3,l1,l2,l3,⟨x,m,y⟩⟩ {s with dsks:=ds}:=by
 have key:∀ {P:Program} {e:TypeId} {α:Type} {L:Lay P e α} {sl:Sli} {xs:List α},SliAt L w9 B sl xs→Ap sl.a l4.a→SliAt L w10 B sl xs:=fun {P e α L sl xs} q hd=>by
  refine⟨q.len,q.le,q.nil,q.near,?_⟩
  ·rcases q.row with h1|⟨b,o,ha,hc⟩
   ·exact .inl h1
   ·by_cases h1:xs.flatMap L.cells=[]
    ·exact .inl h1
    ·have hlt:=Row.lt (w:=w9) (.inr ⟨b,o,rfl,hc⟩) h1
     refine .inr ⟨b,o,ha,fun i hi=> ?_⟩
     rw[World.cell?_of_block (w:=w9) (ho.block b hlt (fun o' s' e=>hd b o none b o' s' ha e rfl))]
     exact hc i hi
 have t1:=key h.ten hap.1
 have t2:=key h.lea hap.2.1
 have t3:=key h.ses hap.2.2
 have hk:∀k,k<w10.heap.size→ k≠g→ w11.heap[k]? =w10.heap[k]?:=fun k _ e=>hw.keep k e
 have mf:=misfits_st ⟨u1,u2,u3,l1,l2,l3,l4⟩
 have t4:SliAt layDsk w10 0 ⟨x,m,y⟩ ds:=⟨hl,hle,hnil,fun _ _ _ _=> .inl (Nat.zero_le _),hrow⟩
 exact⟨h.term,h.stamp,h.next,(t1.turned hbx mf.ten hk).mono (Nat.zero_le _),(t2.turned hbx mf.lea hk).mono (Nat.zero_le _),(t3.turned hbx mf.ses hk).mono (Nat.zero_le _),⟨t4.turned hbx mf.dsk hk,fun h=>absurd h (by omega),fun h=>absurd h (by omega)⟩⟩
set_option maxHeartbeats 16000000 in
theorem grant_far (s:St) (q:Raw) (c:WCmd) (p:PCmd) (gs gc:Nat) (w:World) (HG:Bex w gs q.cells) (HST:StAt w 0 q s) (HC:CmdAt w gc c p) (hne:gs≠ gc) (hok:stateOk s=true) (hgood:goodWCmd c) (hnb:¬deskBad c) (hfd:findK Desk.shaper s.dsks c.shaper=none):
 Calls Tryz.prog 69 #[.pointer (some ⟨gs,0,none⟩),.pointer (some ⟨gc,0,none⟩)] w (WayPost w gs (grantNew s c)):=by
 obtain⟨hsm1,hsm2,hsm3,hsm4⟩:=ok_small hok
 have hok4:=(stateOk_parts hok).2.2.2.1
 have hok5:=(stateOk_parts hok).2.2.2.2
 have HOK4:=Lib.hid hok4
 have HOK5:=Lib.hid hok5
 have HWF:=Lib.hid (fun d h=>wf_small (n:=Desk.shaper d) (by have:=dsksOk_wf hok5 d h;omega) (by have:=dsksOk_wf hok5 d h;omega))
 have HSH:=Lib.hid (inI_wf hgood.2.2.2.2.2.2.1)
 have HPF:=Lib.hid (fun f (h:PlD s.dsks s.dsks.length f)=>h.find hok5 c.shaper)
 have hgs:=HG.lt
 have hgc:=HC.box.lt
 obtain⟨t1,t2,t3,⟨a1,n1,c1⟩,⟨a2,n2,c2⟩,⟨a3,n3,c3⟩,⟨a4,n4,c4⟩⟩:=q
 have HC0:=Lib.hid HC
 have HBx:=Lib.hid ((Below.refl w.heap.size w).alloc (Nat.le_refl _) (.cells #[.int .i64 0,.int .i64 0,.int .i64 0,.int .i64 0,.int .i64 0] 40))
 have HGx:=Lib.hid (HG.next ((Below.refl w.heap.size w).alloc (Nat.le_refl _) (.cells #[.int .i64 0,.int .i64 0,.int .i64 0,.int .i64 0,.int .i64 0] 40)))
 have HSx:=Lib.hid (HST.below ((Below.refl w.heap.size w).alloc (Nat.le_refl _) (.cells #[.int .i64 0,.int .i64 0,.int .i64 0,.int .i64 0,.int .i64 0] 40)))
 have HAx:=Lib.hid (ans_new w)
 have HOx:=Lib.hid (Only.of (g:=gs) ((Below.refl w.heap.size w).alloc (Nat.le_refl _) (.cells #[.int .i64 0,.int .i64 0,.int .i64 0,.int .i64 0,.int .i64 0] 40)))
 have hn':¬c.shaper< 1∧¬8< c.shaper∧¬c.epoch< 1∧¬c.number< 1:=by unfold deskBad at hnb;omega
 obtain⟨e1,e2,e3,e4⟩:=hn'
 clear hnb
 clear HG HC HST hok hok4 hok5 hgood
 go_enter Tryz.func69,Tryz.ntmps69
 go_upto_region 1 with fail
 obtain⟨w1,hw1⟩:∃x,x=w.alloc (.cells #[.int .i64 0,.int .i64 0,.int .i64 0,.int .i64 0,.int .i64 0] 40):=⟨_,rfl⟩
 rw[←hw1]at HBx HGx HSx HAx HOx ⊢
 have hz1:w.heap.size< w1.heap.size:=by rw[hw1];simp
 clear hw1
 have k0:=(HC0.out.next HBx.out).box.box.cell (j:=6) rfl
 have k1:=(HC0.out.next HBx.out).box.box.cell (j:=7) rfl
 have k2:=(HC0.out.next HBx.out).box.box.cell (j:=2) rfl
 have k6:=HGx.out.box.cell (j:=6) rfl
 have hgs1:gs< w1.heap.size:=HGx.out.lt
 simp only at k6
 have hmm:= @run_makeMap Tryz.prog
 obtain rfl:s.dsks.length= n4:=HSx.out.dsk.len
 go_upto_region 3 with fail
 go_wp2
 clear k0 k1 k2 k6
 go_loopw [46] (fun i wr=>∃k: Nat,∃f,k≤s.dsks.length∧ i= .int .i64 k∧Hid (PlD s.dsks k f)∧Hid (MapI keyWh 3 wr w1.heap.size k f)∧Hid (Below w1.heap.size w1 wr)) (fun i _=>s.dsks.length- (intOf i).toNat)
 case atStart=>exact ⟨0,fun _=>none,by omega,rfl,PlD.zero _,MapI.made w1,(Below.refl _ _).alloc (Nat.le_refl _) _⟩
 case round=>
  obtain⟨k,f,hk,rfl,hp,hm,hb⟩:=hrel
  by_cases hlt:k< s.dsks.length
  ·have HROW:=Lib.hid (HSx.out.dsk.row)
   simp only at HROW
   obtain⟨b,o,rfl,hcs⟩:=LRow.range HROW.out hlt
   have HRG:=Lib.hid (hcs wr hb.out)
   have HP1:=Lib.hid (hp.out.next hlt)
   have HW:=Lib.hid (HWF.out s.dsks[k] (List.getElem_mem hlt))
   clear hcs
   generalize s.dsks[k]=x at HRG HP1 HW
   obtain⟨x0,x1,x2,⟨xe,xr,xb,xl,xz⟩⟩:=x
   have hmb:=hm.out.lt
   go_wp2_with(first|((with_reducible refine at_load 66 (.tmp 49) ?_);refine wpList_load_as layDsk rfl (.tmp 49) rfl b (o+k* 8) rfl ⟨x0,x1,x2,⟨xe,xr,xb,xl,xz⟩⟩ (.agg #[.int .i64 x0,.int .i64 x1,.int .i64 x2,.int .i64 xe,.int .i64 xr,.int .i64 xb,.int .i64 xl,.int .i64 xz]) rfl HRG.out ?_)|((with_reducible refine at_store 66 (.tmp 7) (.tmp 50) ?_);refine wpList_store_bex layDsk rfl (.tmp 7) (.tmp 50) rfl wr.heap.size ⟨x0,x1,x2,⟨xe,xr,xb,xl,xz⟩⟩ zDsk.cells rfl rfl (Bex.new wr zDsk.cells _) rfl ?_;intro w7 hx7 hw7;have hb7:Below wr.heap.size wr w7:=((Below.refl _ _).alloc (Nat.le_refl _) _).trans (hw7.below _ (Nat.le_refl _));have HB7:=Lib.hid hb7;have HM7:=Lib.hid (hm.out.below hb7 hmb);have p0:w7.cell? ⟨wr.heap.size,0,none⟩=some (.int .i64 x0):=hx7.box.cell (j:=0) rfl;clear hx7 hw7 hb7)|(refine wpList_putI keyWh Tryz.underlying156 Tryz.underlying3 rfl (.tmp 51) (.tmp 54) (.tmp 55) rfl w1.heap.size k f rfl HM7.out (by unfold maxLen;omega) x0 HW.out rfl k rfl (wf_small (by omega) (by omega)) ?_;intro w8 hm8 hg8;have HM8:=Lib.hid hm8;have HB8:Hid (Below w1.heap.size w1 w8):=(hb.out.trans (HB7.out.mono hb.out.size)).grown hg8 (by have h1:=hb.out.size;have h2:=HB7.out.size;omega) (fun _ h=>by cases h;exact Nat.le_refl _);clear hm8 hg8))
   go_roundw
   case rel=>exact ⟨k+1,_,by omega,by go_num,HP1.out,HM8.out,HB8.out⟩
   case measure=>simp [intOf];omega
  ·obtain rfl:k= s.dsks.length:=by omega
   have hpf:=HPF.out f hp.out
   have HM:=Lib.hid hm.out
   replace HBx:=Lib.hid (HBx.out.trans (hb.out.mono HBx.out.size))
   replace HGx:=Lib.hid (HGx.out.below hb.out HGx.out.lt)
   replace HSx:=Lib.hid (HSx.out.below hb.out)
   replace HAx:=Lib.hid (HAx.out.next hb.out)
   replace HOx:=Lib.hid (HOx.out.next hb.out)
   have k0:=(HC0.out.next HBx.out).box.box.cell (j:=6) rfl
   rcases hpf with⟨hfj,_⟩|⟨j,hj,hfj,hfd2,hsj⟩
   rotate_left
   ·rw[hfd]at hfd2;cases hfd2
   have hm2sz:=hb.out.size
   clear HPF HWF
   go_upto_region 18 with(refine wpList_getOkI keyWh Tryz.underlying156 Tryz.underlying3 zero_int rfl (.tmp 58) (.tmp 63) rfl w1.heap.size s.dsks.length f rfl HM.out c.shaper HSH.out rfl ?_)
   obtain⟨w2,hw2⟩:∃x,x=wr.alloc (.cells #[.int .i64 0,.int .i64 0,.int .i64 0,.int .i64 0,.int .i64 0] 40):=⟨_,rfl⟩
   rw[←hw2]
   have hb:Below wr.heap.size wr w2:=by rw[hw2];exact(Below.refl _ _).alloc (Nat.le_refl _) _
   have HTx:Hid (Bex w2 wr.heap.size zAns.cells):=by rw[hw2];exact ans_new wr
   replace HBx:=Lib.hid (HBx.out.trans (hb.mono HBx.out.size))
   replace HGx:=Lib.hid (HGx.out.next hb)
   replace HSx:=Lib.hid (HSx.out.below hb)
   replace HAx:=Lib.hid (HAx.out.next hb)
   replace HOx:=Lib.hid (HOx.out.next hb)
   have hgTw:w.heap.size< wr.heap.size:=Nat.lt_of_lt_of_le hz1 hm2sz
   have hwr2:wr.heap.size< w2.heap.size:=HTx.out.lt
   clear hb hw2 k0
   refine wrq (fun l w'=>(w'.cell? ⟨gc,2,none⟩=some (.int .i64 c.number)∧w'.cell? ⟨gc,3,none⟩=some (.int .i64 c.tenant)∧w'.cell? ⟨gc,6,none⟩=some (.int .i64 c.shaper)∧w'.cell? ⟨gc,7,none⟩=some (.int .i64 c.epoch)∧w'.cell? ⟨gc,9,none⟩=some (.int .i64 c.size))∧Till 29 l (w'.cell? ⟨gs,0,none⟩=some (.int .i64 t1)∧w'.cell? ⟨gs,1,none⟩=some (.int .i64 t2)∧w'.cell? ⟨gs,2,none⟩=some (.int .i64 t3)∧w'.cell? ⟨gs,3,none⟩=some (.slice a1 n1 c1)∧w'.cell? ⟨gs,4,none⟩=some (.slice a2 n2 c2)∧w'.cell? ⟨gs,5,none⟩=some (.slice a3 n3 c3)∧w'.cell? ⟨gs,6,none⟩=some (.slice a4 s.dsks.length c4))) ?_
   refine toS ⟨⟨(HC0.out.next HBx.out).box.box.cell (j:=2) rfl,(HC0.out.next HBx.out).box.box.cell (j:=3) rfl,(HC0.out.next HBx.out).box.box.cell (j:=6) rfl,(HC0.out.next HBx.out).box.box.cell (j:=7) rfl,(HC0.out.next HBx.out).box.box.cell (j:=9) rfl⟩,fun _=>⟨HGx.out.box.cell (j:=0) rfl,HGx.out.box.cell (j:=1) rfl,HGx.out.box.cell (j:=2) rfl,HGx.out.box.cell (j:=3) rfl,HGx.out.box.cell (j:=4) rfl,HGx.out.box.cell (j:=5) rfl,HGx.out.box.cell (j:=6) rfl⟩⟩ ?_
   refine ttq [] 0 ?_
   refine ttq [] 1 ?_
   refine ttq [] 2 ?_
   refine ttq [29] 3 ?_
   refine ttq [] 4 ?_
   refine ttq [] 5 ?_
   refine ttq [] 6 ?_
   refine ttq [29] 7 ?_
   refine ttq [] 8 ?_
   refine ttq [] 9 ?_
   refine ttq [] 10 ?_
   refine ttq [29] 11 ?_
   refine ttq [] 12 ?_
   refine ttq [] 13 ?_
   refine ttq [] 14 ?_
   refine ttq [29] 15 ?_
   refine ttq [] 16 ?_
   refine ttq [] 17 ?_
   refine ttq [] 18 ?_
   refine ttq [29] 19 ?_
   refine ttq [] 20 ?_
   refine ttq [] 21 ?_
   refine ttq [] 22 ?_
   refine ttq [29] 23 ?_
   refine soq 24 (fun K hK=> ?_)
   go_simp
   go_at_call 118
   with_reducible refine(grant_new s _ 0 c.shaper c.epoch c.number c.tenant c.size w2.drew (HSx.out.below ((Below.refl _ _).drew)) (by omega) (by omega) (by omega) (by omega)).mono ?_
   rintro e w3 ⟨⟨u1,u2,u3,⟨b1,m1,d1⟩,⟨b2,m2,d2⟩,⟨b3,m3,d3⟩,⟨b4,m4,d4⟩⟩,B2,rfl,hst,hB2,hbz⟩
   have hb:Below w2.heap.size w2 w3:=⟨hbz.os,hbz.tape,hbz.output,hbz.size,hbz.block⟩
   obtain⟨⟨hB3d,hB30⟩,hap⟩:=hB2 (grant_ok HOK4.out _ _ _ _ _).1
   have hB3:w2.heap.size≤ B2:=hB3d
   clear hB3d
   have HAP:=Lib.hid hap
   clear hap
   have HDK:Hid ((grantS s c.shaper c.epoch c.number c.tenant c.size).1.dsks=s.dsks):=(grant_rest s _ _ _ _ _).2.2.2
   have HN:=Lib.hid hst
   have HCx:=Lib.hid ((HC0.out.next HBx.out).box.next hb)
   replace HGx:=Lib.hid (HGx.out.next hb)
   replace HAx:=Lib.hid (HAx.out.next hb)
   replace HTx:=Lib.hid (HTx.out.next hb)
   replace HOx:=Lib.hid (HOx.out.next hb)
   have hz3:=hb.size
   clear hb hbz hst hB2
   have HQ:Hid (grantNew s c=({(grantS s c.shaper c.epoch c.number c.tenant c.size).1 with dsks:=insK Desk.shaper ⟨c.shaper,c.epoch,c.number,(grantS s c.shaper c.epoch c.number c.tenant c.size).2⟩ (grantS s c.shaper c.epoch c.number c.tenant c.size).1.dsks},(grantS s c.shaper c.epoch c.number c.tenant c.size).2)):=rfl
   generalize grantS s c.shaper c.epoch c.number c.tenant c.size=gr at HN HQ HDK
   obtain⟨gst,⟨ae,ar,ab,al,az⟩⟩:=gr
   refine hK.out _ _ ⟨⟨HCx.out.box.cell (j:=2) rfl,HCx.out.box.cell (j:=3) rfl,HCx.out.box.cell (j:=6) rfl,HCx.out.box.cell (j:=7) rfl,HCx.out.box.cell (j:=9) rfl⟩,fun _=>⟨HGx.out.box.cell (j:=0) rfl,HGx.out.box.cell (j:=1) rfl,HGx.out.box.cell (j:=2) rfl,HGx.out.box.cell (j:=3) rfl,HGx.out.box.cell (j:=4) rfl,HGx.out.box.cell (j:=5) rfl,HGx.out.box.cell (j:=6) rfl⟩⟩ ?_
   clear hK K
   refine ttq [] 25 ?_
   refine ttq [] 26 ?_
   refine ttq [] 27 ?_
   refine ttq [] 28 ?_
   refine soq 29 (fun K hK=> ?_)
   rw[if_pos (by rfl)]
   refine op_store_bex laySt (.tmp 158) (.tmp 156) rfl gs ⟨u1,u2,u3,⟨b1,m1,d1⟩,⟨b2,m2,d2⟩,⟨b3,m3,d3⟩,⟨b4,m4,d4⟩⟩ _ rfl rfl HGx.out rfl ?_
   intro w4 hx hw
   have hgs3:gs< w3.heap.size:=HGx.out.lt
   replace HN:=Lib.hid (HN.out.wrote HGx.out (misfits_st _) hw)
   replace HGx:=Lib.hid hx
   replace HCx:=Lib.hid (HCx.out.wrote hw (fun e=>hne e.symm))
   replace HAx:=Lib.hid (HAx.out.wrote hw (by omega))
   replace HTx:=Lib.hid (HTx.out.wrote hw (by omega))
   replace HOx:=Lib.hid (HOx.out.wrote hw)
   have hz4a:=Nat.le_of_eq hw.size.symm
   have hz4b:=Nat.le_of_eq hw.size
   clear hx hw
   refine hK.out _ _ ⟨⟨HCx.out.box.cell (j:=2) rfl,HCx.out.box.cell (j:=3) rfl,HCx.out.box.cell (j:=6) rfl,HCx.out.box.cell (j:=7) rfl,HCx.out.box.cell (j:=9) rfl⟩,fun h=>absurd h (by decide)⟩ ?_
   clear hK K
   refine soq 30 (fun K hK=> ?_)
   rw[if_pos (by rfl)]
   refine op_store_bex layAns (.tmp 11) (.tmp 157) rfl wr.heap.size ⟨ae,ar,ab,al,az⟩ _ rfl rfl HTx.out rfl ?_
   intro w5 hx hw
   replace HN:=Lib.hid (HN.out.wrote HTx.out (misfits_ans _) hw)
   replace HGx:=Lib.hid (HGx.out.wrote hw (by omega))
   replace HCx:=Lib.hid (HCx.out.wrote hw (by omega))
   replace HAx:=Lib.hid (HAx.out.wrote hw (by omega))
   replace HOx:=Lib.hid (HOx.out.wroteNew hw (by omega))
   replace HTx:=Lib.hid hx
   have hz5a:=Nat.le_of_eq hw.size.symm
   have hz5b:=Nat.le_of_eq hw.size
   clear hx hw
   refine hK.out _ _ ⟨⟨HCx.out.box.cell (j:=2) rfl,HCx.out.box.cell (j:=3) rfl,HCx.out.box.cell (j:=6) rfl,HCx.out.box.cell (j:=7) rfl,HCx.out.box.cell (j:=9) rfl⟩,fun h=>absurd h (by decide)⟩ ?_
   clear hK K
   refine sdq ?_
   go_wp2
   refine wrq (fun l w'=>(w'.cell? ⟨gc,2,none⟩=some (.int .i64 c.number)∧w'.cell? ⟨gc,6,none⟩=some (.int .i64 c.shaper)∧w'.cell? ⟨gc,7,none⟩=some (.int .i64 c.epoch)∧w'.cell? ⟨wr.heap.size,0,none⟩=some (.int .i64 ae)∧w'.cell? ⟨wr.heap.size,1,none⟩=some (.int .i64 ar)∧w'.cell? ⟨wr.heap.size,2,none⟩=some (.int .i64 ab)∧w'.cell? ⟨wr.heap.size,3,none⟩=some (.int .i64 al)∧w'.cell? ⟨wr.heap.size,4,none⟩=some (.int .i64 az))) ?_
   refine toS ⟨HCx.out.box.cell (j:=2) rfl,HCx.out.box.cell (j:=6) rfl,HCx.out.box.cell (j:=7) rfl,HTx.out.box.cell (j:=0) rfl,HTx.out.box.cell (j:=1) rfl,HTx.out.box.cell (j:=2) rfl,HTx.out.box.cell (j:=3) rfl,HTx.out.box.cell (j:=4) rfl⟩ ?_
   refine tkq 0 ?_
   refine tkq 1 ?_
   refine tkq 2 ?_
   refine tkq 3 ?_
   refine tkq 4 ?_
   refine tkq 5 ?_
   refine tkq 6 ?_
   refine tkq 7 ?_
   refine tkq 8 ?_
   refine tkq 9 ?_
   refine tkq 10 ?_
   refine tkq 11 ?_
   refine tkq 12 ?_
   refine tkq 13 ?_
   refine soq 14 (fun K hK=> ?_)
   go_simp
   obtain⟨w6,hw6⟩:∃x,x=(w5.alloc (.cells #[.int .i64 0,.int .i64 0,.int .i64 0,.int .i64 0,.int .i64 0,.int .i64 0,.int .i64 0,.int .i64 0] 66)).drew:=⟨_,rfl⟩
   rw[←hw6]
   have hb:Below w5.heap.size w5 w6:=by rw[hw6];exact((Below.refl _ _).alloc (Nat.le_refl _) _).drew
   have HDx:Hid (Bex w6 w5.heap.size zDsk.cells):=by rw[hw6];exact(Bex.new w5 zDsk.cells _).drew
   have hgc5:gc< w5.heap.size:=HCx.out.lt
   have hA5:=HAx.out.lt
   have hT5:=HTx.out.lt
   replace HGx:=Lib.hid (HGx.out.next hb)
   replace HCx:=Lib.hid (HCx.out.next hb)
   replace HAx:=Lib.hid (HAx.out.next hb)
   replace HTx:=Lib.hid (HTx.out.next hb)
   replace HOx:=Lib.hid (HOx.out.next hb)
   have HB6:=Lib.hid hb
   have hz6:w5.heap.size< w6.heap.size:=HDx.out.lt
   clear hb hw6
   refine hK.out _ _ ⟨HCx.out.box.cell (j:=2) rfl,HCx.out.box.cell (j:=6) rfl,HCx.out.box.cell (j:=7) rfl,HTx.out.box.cell (j:=0) rfl,HTx.out.box.cell (j:=1) rfl,HTx.out.box.cell (j:=2) rfl,HTx.out.box.cell (j:=3) rfl,HTx.out.box.cell (j:=4) rfl⟩ ?_
   clear hK K
   refine soq 15 (fun K hK=> ?_)
   rw[if_pos (by rfl)]
   refine op_store_bex layDsk (.tmp 12) (.tmp 172) rfl w5.heap.size ⟨c.shaper,c.epoch,c.number,⟨ae,ar,ab,al,az⟩⟩ _ rfl rfl HDx.out rfl ?_
   intro w7 hx hw
   have hgs5:gs< w5.heap.size:=by omega
   replace HN:=Lib.hid (HN.out.below (HB6.out.trans (hw.below _ (Nat.le_refl _))))
   replace HGx:=Lib.hid (HGx.out.wrote hw (by omega))
   replace HCx:=Lib.hid (HCx.out.wrote hw (by omega))
   replace HAx:=Lib.hid (HAx.out.wrote hw (by omega))
   replace HTx:=Lib.hid (HTx.out.wrote hw (by omega))
   replace HOx:=Lib.hid (HOx.out.wroteNew hw (by omega))
   replace HDx:=Lib.hid hx
   have hz7a:=Nat.le_of_eq hw.size.symm
   have hz7b:=Nat.le_of_eq hw.size
   clear hx hw HB6
   refine hK.out _ _ ⟨HCx.out.box.cell (j:=2) rfl,HCx.out.box.cell (j:=6) rfl,HCx.out.box.cell (j:=7) rfl,HTx.out.box.cell (j:=0) rfl,HTx.out.box.cell (j:=1) rfl,HTx.out.box.cell (j:=2) rfl,HTx.out.box.cell (j:=3) rfl,HTx.out.box.cell (j:=4) rfl⟩ ?_
   clear hK K
   refine sdq ?_
   go_wp2
   have hdl:gst.dsks.length≤ 301:=by have:=HDK.out;(try simp only at this);rw[this];exact hsm4
   have hm4:gst.dsks.length= m4:=HN.out.dsk.len
   have hok5':dsksOk gst.dsks=true:= by have:=HDK.out;(try simp only at this);rw[this];exact HOK5.out
   have hwfd:=dsksOk_wf hok5'
   have hnof:findK Desk.shaper gst.dsks c.shaper=none:= by have:=HDK.out;(try simp only at this);rw[this];exact hfd
   have hpw:=(chainOk_iff.1 hok5').2
   have hle:=lessK_le (key:=Desk.shaper) c.shaper gst.dsks
   have HS1:=Lib.hid (fun(y:Desk) (hy:y∈ gst.dsks) w'=>show Calls Tryz.prog 120 #[y.agg,Desk.agg ⟨c.shaper,c.epoch,c.number,⟨ae,ar,ab,al,az⟩⟩] w' (fun e w''=>e= .returned (.int .i64 (y.shaper-c.shaper))∧Below w'.heap.size w' w'')from grant1_any y ⟨c.shaper,c.epoch,c.number,⟨ae,ar,ab,al,az⟩⟩ w' (by have:=hwfd y hy;omega) (by have:=hwfd y hy;omega) (by show 0≤c.shaper;omega) (by show c.shaper≤1000000;omega))
   have HLO:=Lib.hid (fun j (h:j< gst.dsks.length) (hj:j< lessK Desk.shaper c.shaper gst.dsks)=>show gst.dsks[j].shaper-c.shaper< 0 by have:=lessK_lo c.shaper j h hj;omega)
   have HHI:=Lib.hid (fun j (h:j< gst.dsks.length) (hj:lessK Desk.shaper c.shaper gst.dsks≤j)=>show 0≤gst.dsks[j].shaper-c.shaper by have:=lessK_hi c.shaper hpw j h hj;omega)
   have HINS:Hid (insK Desk.shaper ⟨c.shaper,c.epoch,c.number,⟨ae,ar,ab,al,az⟩⟩ gst.dsks=gst.dsks.take (lessK Desk.shaper c.shaper gst.dsks)++⟨c.shaper,c.epoch,c.number,⟨ae,ar,ab,al,az⟩⟩::gst.dsks.drop (lessK Desk.shaper c.shaper gst.dsks)):=by
    show _=_
    refine insK_none (x:=(⟨c.shaper,c.epoch,c.number,⟨ae,ar,ab,al,az⟩⟩:Desk)) (fun y hy e=> ?_)
    have hy2:=List.mem_of_getElem? hy
    have:=List.find?_eq_none.1 hnof y hy2
    simp at this
    exact this e
   generalize lessK Desk.shaper c.shaper gst.dsks=k0 at hle HLO HHI HINS
   have hcf:=enter_sgrant1
   have HBS:=Lib.hid (binSearchDsk gst.dsks ⟨c.shaper,c.epoch,c.number,⟨ae,ar,ab,al,az⟩⟩ b4 m4 d4 120 #[] (fun y=>y.shaper- c.shaper) k0 w7.drew hm4 (by omega) (HN.out.below ((Below.refl _ _).drew)).dsk.row hcf (fun y hy w'' _=>HS1.out y hy w'') (by omega) HLO.out HHI.out)
   clear hok5' hwfd hnof hpw hfd
   refine wrq (fun l w'=>(w'.cell? ⟨gs,6,none⟩=some (.slice b4 m4 d4)∧w'.cell? ⟨w5.heap.size,0,none⟩=some (.int .i64 c.shaper)∧w'.cell? ⟨w5.heap.size,1,none⟩=some (.int .i64 c.epoch)∧w'.cell? ⟨w5.heap.size,2,none⟩=some (.int .i64 c.number)∧w'.cell? ⟨w5.heap.size,3,none⟩=some (.int .i64 ae)∧w'.cell? ⟨w5.heap.size,4,none⟩=some (.int .i64 ar)∧w'.cell? ⟨w5.heap.size,5,none⟩=some (.int .i64 ab)∧w'.cell? ⟨w5.heap.size,6,none⟩=some (.int .i64 al)∧w'.cell? ⟨w5.heap.size,7,none⟩=some (.int .i64 az))) ?_
   refine toS ⟨HGx.out.box.cell (j:=6) rfl,HDx.out.box.cell (j:=0) rfl,HDx.out.box.cell (j:=1) rfl,HDx.out.box.cell (j:=2) rfl,HDx.out.box.cell (j:=3) rfl,HDx.out.box.cell (j:=4) rfl,HDx.out.box.cell (j:=5) rfl,HDx.out.box.cell (j:=6) rfl,HDx.out.box.cell (j:=7) rfl⟩ ?_
   refine tkq 0 ?_
   refine tkq 1 ?_
   refine tkq 2 ?_
   refine tkq 3 ?_
   refine tkq 4 ?_
   refine soq 5 (fun K hK=> ?_)
   go_simp
   go_at_call 119
   with_reducible refine HBS.out.mono ?_
   rintro e w8 ⟨rfl,hbz⟩
   have hb:Below w7.heap.size w7 w8:=⟨hbz.os,hbz.tape,hbz.output,hbz.size,hbz.block⟩
   replace HN:=Lib.hid (HN.out.below hb)
   replace HGx:=Lib.hid (HGx.out.next hb)
   replace HAx:=Lib.hid (HAx.out.next hb)
   replace HTx:=Lib.hid (HTx.out.next hb)
   replace HDx:=Lib.hid (HDx.out.next hb)
   replace HOx:=Lib.hid (HOx.out.next hb)
   have hz8:=hb.size
   clear hb hbz hcf
   refine hK.out _ _ ⟨HGx.out.box.cell (j:=6) rfl,HDx.out.box.cell (j:=0) rfl,HDx.out.box.cell (j:=1) rfl,HDx.out.box.cell (j:=2) rfl,HDx.out.box.cell (j:=3) rfl,HDx.out.box.cell (j:=4) rfl,HDx.out.box.cell (j:=5) rfl,HDx.out.box.cell (j:=6) rfl,HDx.out.box.cell (j:=7) rfl⟩ ?_
   clear hK K
   refine tkq 6 ?_
   refine tkq 7 ?_
   refine tkq 8 ?_
   refine tkq 9 ?_
   refine sdq ?_
   go_wp2
   refine wrq (fun l w'=>(True)∧Till 8 l (w'.cell? ⟨w5.heap.size,0,none⟩=some (.int .i64 c.shaper)∧w'.cell? ⟨w5.heap.size,1,none⟩=some (.int .i64 c.epoch)∧w'.cell? ⟨w5.heap.size,2,none⟩=some (.int .i64 c.number)∧w'.cell? ⟨w5.heap.size,3,none⟩=some (.int .i64 ae)∧w'.cell? ⟨w5.heap.size,4,none⟩=some (.int .i64 ar)∧w'.cell? ⟨w5.heap.size,5,none⟩=some (.int .i64 ab)∧w'.cell? ⟨w5.heap.size,6,none⟩=some (.int .i64 al)∧w'.cell? ⟨w5.heap.size,7,none⟩=some (.int .i64 az))∧Till 11 l (w'.cell? ⟨gs,6,none⟩=some (.slice b4 m4 d4))) ?_
   refine toS ⟨trivial,fun _=>⟨HDx.out.box.cell (j:=0) rfl,HDx.out.box.cell (j:=1) rfl,HDx.out.box.cell (j:=2) rfl,HDx.out.box.cell (j:=3) rfl,HDx.out.box.cell (j:=4) rfl,HDx.out.box.cell (j:=5) rfl,HDx.out.box.cell (j:=6) rfl,HDx.out.box.cell (j:=7) rfl⟩,fun _=>HGx.out.box.cell (j:=6) rfl⟩ ?_
   refine ttq [] 0 ?_
   refine ttq [] 1 ?_
   refine ttq [] 2 ?_
   refine ttq [] 3 ?_
   refine ttq [8,11] 4 ?_ (hy:=Or.inl ⟨by rfl,by(rintro w ⟨l,hD,hSw⟩;(try dsimp only at hSw);have hC0:=hSw.2.1 (hD 8 (by decide));have hC1:=hSw.2.2 (hD 11 (by decide));replace hSw:=hSw.1;clear hD;go_simp;rfl)⟩)
   refine ttq [] 5 ?_
   refine ttq [7,8,11] 6 ?_ (hy:=Or.inl ⟨by rfl,by(rintro w ⟨l,hD,hSw⟩;(try dsimp only at hSw);have hC0:=hSw.2.1 (hD 8 (by decide));have hC1:=hSw.2.2 (hD 11 (by decide));replace hSw:=hSw.1;clear hD;go_simp;rfl)⟩)
   refine soq 7 (fun K hK=> ?_)
   go_simp
   obtain⟨w9,hw9⟩:∃x,x=(w8.alloc (.cells #[.int .i64 c.shaper,.int .i64 c.epoch,.int .i64 c.number,.int .i64 ae,.int .i64 ar,.int .i64 ab,.int .i64 al,.int .i64 az] 66)).drew:=⟨_,rfl⟩
   rw[←hw9]
   have hb:Below w8.heap.size w8 w9:=by rw[hw9];exact((Below.refl _ _).alloc (Nat.le_refl _) _).drew
   have HV:Hid (w9.heap[w8.heap.size]? =some (.cells (layDsk.cells ⟨c.shaper,c.epoch,c.number,⟨ae,ar,ab,al,az⟩⟩).toArray 66 (0,0))):=by show _=_;rw[hw9];exact heap_alloc_new w8 _
   have HNL:=Lib.hid (HN.out.dsk.lt hB30)
   replace HN:=Lib.hid (HN.out.below hb)
   replace HGx:=Lib.hid (HGx.out.next hb)
   replace HAx:=Lib.hid (HAx.out.next hb)
   replace HTx:=Lib.hid (HTx.out.next hb)
   replace HDx:=Lib.hid (HDx.out.next hb)
   replace HOx:=Lib.hid (HOx.out.next hb)
   have hz9:w8.heap.size≤ w9.heap.size:=hb.size
   clear hb hw9
   refine hK.out _ _ ⟨trivial,fun _=>⟨HDx.out.box.cell (j:=0) rfl,HDx.out.box.cell (j:=1) rfl,HDx.out.box.cell (j:=2) rfl,HDx.out.box.cell (j:=3) rfl,HDx.out.box.cell (j:=4) rfl,HDx.out.box.cell (j:=5) rfl,HDx.out.box.cell (j:=6) rfl,HDx.out.box.cell (j:=7) rfl⟩,fun _=>HGx.out.box.cell (j:=6) rfl⟩ ?_
   clear hK K
   refine soq 8 (fun K hK=> ?_)
   go_simp
   go_at_call 121
   have hown:=(HN.out.dsk.own hB30).base (B0:=min B2 w9.heap.size) (Nat.min_le_left _ _)
   have hgb:gs< min B2 w9.heap.size:=by have:=HGx.out.lt;omega
   have hab:w.heap.size< min B2 w9.heap.size:=by have:=HAx.out.lt;omega
   have htb:wr.heap.size< min B2 w9.heap.size:=by have:=HTx.out.lt;omega
   have HIN:=Lib.hid (insertODsk gst.dsks ⟨c.shaper,c.epoch,c.number,⟨ae,ar,ab,al,az⟩⟩ k0 m4 d4 b4 w8.heap.size 66 (min B2 w9.heap.size) w9 hm4 (by omega) hown.can (fun h=>hown.own (by rw[hm4];exact h)) HV.out (fun b o s e=>Nat.ne_of_gt (HNL.out b o s e)) (show(m4+1)*64≤ 140737488355328 by omega) (Nat.min_le_right _ _))
   with_reducible refine HIN.out.mono ?_
   rintro e w10 ⟨x1,y1,rfl,hown10,hb10,ho10⟩
   obtain⟨v1,v2,v3,v4⟩:=own_fullL hown10
   have KK:=Lib.hid (And.intro v1 (And.intro v3 v4))
   have HO10:=Lib.hid ho10
   replace HGx:=Lib.hid (HGx.out.below hb10 hgb)
   replace HAx:=Lib.hid (HAx.out.below hb10 hab)
   replace HTx:=Lib.hid (HTx.out.below hb10 htb)
   replace HOx:=Lib.hid (HOx.out.nextB hb10 (by omega))
   clear hown hown10 hb10 ho10 v1 v2 v3 v4
   refine hK.out _ _ ⟨trivial,fun h=>absurd h (by decide),fun _=>HGx.out.box.cell (j:=6) rfl⟩ ?_
   clear hK K
   refine ttq [] 9 ?_
   refine ttq [] 10 ?_
   refine soq 11 (fun K hK=> ?_)
   rw[if_pos (by rfl)]
   refine op_field_bex (.tmp 201) (.tmp 199) rfl size1_fields.2.1 gs 6 _ (.slice x1 (m4+1) y1) rfl rfl rfl rfl HGx.out (show 6<7 by decide) ?_
   intro w11 hx hw
   have hil:(gst.dsks.take k0++⟨c.shaper,c.epoch,c.number,⟨ae,ar,ab,al,az⟩⟩::gst.dsks.drop k0).length=m4+ 1:=by simp;omega
   have HSx:Hid (StAt w11 0 ⟨u1,u2,u3,⟨b1,m1,d1⟩,⟨b2,m2,d2⟩,⟨b3,m3,d3⟩,⟨x1,m4+1,y1⟩⟩ {gst with dsks:=insK Desk.shaper ⟨c.shaper,c.epoch,c.number,⟨ae,ar,ab,al,az⟩⟩ gst.dsks}):=by rw[HINS.out];exact ins_dsk HN.out HO10.out HAP.out HGx.out hw hil KK.out.1 KK.out.2.1 KK.out.2.2
   have hgs10:=HGx.out.lt
   replace HGx:Hid (Bex w11 gs (Raw.cells ⟨u1,u2,u3,⟨b1,m1,d1⟩,⟨b2,m2,d2⟩,⟨b3,m3,d3⟩,⟨x1,m4+1,y1⟩⟩)):=hx
   replace HAx:=Lib.hid (HAx.out.wrote hw (by omega))
   replace HTx:=Lib.hid (HTx.out.wrote hw (by omega))
   replace HOx:=Lib.hid (HOx.out.wrote hw)
   clear hx hw hil
   refine hK.out _ _ ⟨trivial,fun h=>absurd h (by decide),fun h=>absurd h (by decide)⟩ ?_
   clear hK K
   refine sdq ?_
   go_wp2_with(first|((with_reducible refine at_load 40 (.tmp 11) ?_);refine wpList_load_as layAns rfl (.tmp 11) rfl wr.heap.size 0 rfl ⟨ae,ar,ab,al,az⟩ (Ans.agg ⟨ae,ar,ab,al,az⟩) rfl HTx.out.box.range ?_)|((with_reducible refine at_store 40 (.tmp 4) (.tmp 202) ?_);refine wpList_store_bex layAns rfl (.tmp 4) (.tmp 202) rfl w.heap.size ⟨ae,ar,ab,al,az⟩ _ rfl rfl HAx.out rfl ?_;intro wz hxz hwz;have HXZ:=Lib.hid hxz;have HWZ:=Lib.hid hwz;clear hxz hwz))
   obtain⟨j0,j1,j2,j3,j4⟩:=ans_cells HXZ.out
   refine bodyPost_ret (v:=Ans.agg ⟨ae,ar,ab,al,az⟩) (by simp[results,Tryz.results69,Ans.err,go_sem,j0,j1,j2,j3,j4]) rfl ?_
   rw[HQ.out]
   exact⟨rfl,_,HGx.out.wrote HWZ.out (by omega),HSx.out.wrote HAx.out (misfits_ans _) HWZ.out,HOx.out.wroteNew HWZ.out (Nat.le_refl _)⟩
end Go.Proofs.YtfdmhpohfjbpfaaGreat
