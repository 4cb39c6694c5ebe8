import Derived.Deep.CutRange
import Derived.Test.YtfdmhpohfjbpfaaGreatSqWirTopCmd
set_option linter.unusedVariables false
set_option linter.unusedSimpArgs false
namespace Go.Proofs.YtfdmhpohfjbpfaaGreat
open Go.ChangeShapes Go.WideShapes Go.ChangeAt Go.RowKit
set_option maxRecDepth 100000
def layCmd:Lay Tryz.prog 54 (WCmd×PCmd):=Lay.struct (fun x=>cellsCmd x.1 x.2) 13 120 (fun _=>rfl) (by decide) (by decide) (fun x u hu=>by simp at hu;rcases hu with h|h| h|h| h|h| h|h| h|h| h|h| h<;>subst h<;>rfl) (by kernel_rfl) _ Tryz.underlying54 rfl
theorem cmd_row {w:World} {a:Option Addr} {l:List Int} (h:Row w a (l.flatMap cellsInt)):Row w a (l.map (Value.int .i64)):=by
 have e:∀l: List Int,l.flatMap cellsInt=l.map (Value.int .i64):=fun l=>by induction l with
  |nil=> rfl
  |cons x l ih=>rw [List.flatMap_cons,ih];rfl
 rwa [e]at h
theorem enter_cli (args:Array Value) (w:World):(callFunc 112 args).run Tryz.prog w= .ok (.enter 112 args) w:=by kernel_rfl
theorem enter_gra (args:Array Value) (w:World):(callFunc 69 args).run Tryz.prog w= .ok (.enter 69 args) w:=by kernel_rfl
theorem enter_rep (args:Array Value) (w:World):(callFunc 70 args).run Tryz.prog w= .ok (.enter 70 args) w:=by kernel_rfl
theorem enter_exp (args:Array Value) (w:World):(callFunc 72 args).run Tryz.prog w= .ok (.enter 72 args) w:=by kernel_rfl
theorem ways_at {w:World} {g1 g2 g3:Nat} {kd:Int} (h1:1≤ kd) (h6:kd≤ 6) (H1:Bex w g1 [fnV 63]) (H2:Bex w g2 [fnV 65]) (H3:Bex w g3 [fnV 67]) (s:St) (c:WCmd) (hc:c.kind= kd):
 ∃F cap f,(waysV g1 g2 g3)[kd.toNat]? =some (.func (.func F) #[] cap)∧Way F cap f w∧doC s c=f s c∧(∀args w',(callFunc F args).run Tryz.prog w'= .ok (.enter F args) w'):=by
 unfold doC
 obtain rfl|rfl| rfl|rfl| rfl|rfl: kd=1∨ kd=2∨ kd=3∨ kd=4∨ kd=5∨ kd=6:= by omega
 all_goals simp only[hc]
 ·exact⟨_,_,_,rfl,way_cput w g1 H1,rfl,enter_cli⟩
 ·exact⟨_,_,_,rfl,way_cget w g2 H2,rfl,enter_cli⟩
 ·exact⟨_,_,_,rfl,way_cdel w g3 H3,rfl,enter_cli⟩
 ·exact⟨_,_,_,rfl,way_grant w,rfl,enter_gra⟩
 ·exact⟨_,_,_,rfl,way_rep w,rfl,enter_rep⟩
 ·exact⟨_,_,_,rfl,way_exp w,rfl,enter_exp⟩
theorem fn_some (F:FuncId) (cap:Array Value) (w:World):(binOp .eql 69 (.func (.func F) #[] cap) .nilFunc).run Tryz.prog w= .ok (.bool false) w:=by kernel_rfl
theorem fn_none (w:World):(binOp .eql 69 .nilFunc .nilFunc).run Tryz.prog w= .ok (.bool true) w:=by kernel_rfl
theorem size1_int:(Tryz.prog.info? 3).map (·.size)=some 1:=by kernel_rfl
theorem readC_good (x:WEnt) (hl:x.data.length≤ 8000):(readC x).2.2=0→ goodWCmd (readC x).1∧(readC x).1.leases.length≤1000:= by
 intro h
 rcases hr:readC x with⟨c,f,e⟩
 rw[hr]at h
 simp only at h
 subst h
 obtain⟨h1,h2⟩:=written_read wCmd_wrote hr
 refine⟨h2,?_⟩
 have h3:(encWCmd c).length≤8000:= by rw[h1];exact hl
 have h4:∀l: List Int,(l.flatMap be8).length=8* l.length:=fun l=>by induction l with
  |nil=> rfl
  |cons y l ih=>rw [List.flatMap_cons,List.length_append,ih,be8_length,List.length_cons];omega
 unfold encWCmd at h3
 simp only[List.length_append,h4]at h3
 show c.leases.length≤1000
 omega
theorem applyS_go {s:St} {x:WEnt} (hk:stateOk s=true) (h1:1≤ x.term) (h2:0≤ x.stamp) (h3:0≤ x.kind) (h4:x.kind≤ 2):
 applyS s x=if x.kind≠2 then(creditedS s x,Ans.err 0)else if(readC x).2.2≠0 then(creditedS s x,Ans.err 2)else doC (creditedS s x) (readC x).1:=by
 unfold applyS
 rw[if_neg (by
  rintro(h|h| h|h| h)
  ·rw[hk]at h;cases h
  all_goals omega)]
set_option maxHeartbeats 16000000 in
theorem apply_good (s:St) (r:Raw) (x:WEnt) (px:PEnt) (w:World) (h:StAt w 0 r s) (hsm:Small s) (hok:stateOk s=true) (hx1:1≤ x.term) (hx2:0≤ x.stamp) (hx3:0≤ x.kind) (hx4:x.kind≤ 2) (hi1:InI s.stamp) (hi2:InI x.stamp) (hd:RowB w px.1 x.data) (hdl:x.data.length≤ px.2) (hdm:x.data.length≤ 8000):
 Calls Tryz.prog 15 #[r.agg,valEnt x px] w (RetSAB w.heap.size w (applyS s x)):=by
 obtain⟨hsm1,hsm2,hsm3,hsm4⟩:=hsm
 obtain⟨t1,t2,t3,⟨a1,n1,c1⟩,⟨a2,n2,c2⟩,⟨a3,n3,c3⟩,⟨a4,n4,c4⟩⟩:=r
 have HOK:=Lib.hid hok
 have HI1:=Lib.hid hi1
 have HI2:=Lib.hid hi2
 have HDT:=Lib.hid (And.intro hd hdl)
 have HAP:=Lib.hid (applyS_go hok hx1 hx2 hx3 hx4)
 have HCS:Hid (creditedS s x={creditS s (ticksS s x)with term:=x.term,stamp:=x.stamp}):=rfl
 have HCK:=Lib.hid (credited_ok hok hx1 hx2)
 have HCR:=Lib.hid (fun R w' (hq:StAt w' w.heap.size R s)=>credit_new s R w.heap.size (ticksS s x) w' hq (by omega) (by omega) (by omega) (by omega) (stateOk_parts hok).2.2.2.1)
 have HTK:Hid (ticksS s x=if x.term=s.term then max (x.stamp-s.stamp) 0 else 0):=rfl
 have HRD:Hid (∀w',RowB w' px.1 x.data→Calls Tryz.prog 29 #[.slice px.1 x.data.length px.2] w' (RetRdCmd w' (readC x))):=Lib.hid (fun w' hr=>readcommand_any px.1 px.2 x.data w' hr hdl (by omega))
 have HGD:=Lib.hid (readC_good x hdm)
 generalize readC x=rd at HAP HRD HGD
 obtain⟨⟨kd,cl,nu,te,ra,bu,sh,ep,le,sz,sp,co,ls⟩,at',en⟩:=rd
 generalize creditedS s x=cs at HAP HCS HCK
 generalize applyS s x=res at HAP ⊢
 generalize ticksS s x=tk at HCS HCR HTK
 generalize creditS s tk=cr at HCS HCR
 clear hok hi1 hi2 hd hdl
 unfold valEnt
 have HBx:Hid (Below w.heap.size w ((((w.alloc (.cells #[.int .i64 t1,.int .i64 t2,.int .i64 t3,.slice a1 n1 c1,.slice a2 n2 c2,.slice a3 n3 c3,.slice a4 n4 c4] 27)).alloc (.cells #[.int .i64 x.term,.int .i8 x.kind,.int .i64 x.stamp,B x.set,.slice px.1 x.data.length px.2] 45)).alloc (.cells #[.int .i64 0,.int .i64 0,.int .i64 0,.slice none 0 0,.slice none 0 0,.slice none 0 0,.slice none 0 0] 27)).alloc (.cells #[.int .i64 0,.int .i64 0,.int .i64 0,.int .i64 0,.int .i64 0] 40))):=mid_alloc' (mid_alloc' (mid_alloc' (mid_alloc' (Below.refl _ _))))
 have HGx:Hid (Bex ((((w.alloc (.cells #[.int .i64 t1,.int .i64 t2,.int .i64 t3,.slice a1 n1 c1,.slice a2 n2 c2,.slice a3 n3 c3,.slice a4 n4 c4] 27)).alloc (.cells #[.int .i64 x.term,.int .i8 x.kind,.int .i64 x.stamp,B x.set,.slice px.1 x.data.length px.2] 45)).alloc (.cells #[.int .i64 0,.int .i64 0,.int .i64 0,.slice none 0 0,.slice none 0 0,.slice none 0 0,.slice none 0 0] 27)).alloc (.cells #[.int .i64 0,.int .i64 0,.int .i64 0,.int .i64 0,.int .i64 0] 40)) w.heap.size (Raw.cells ⟨t1,t2,t3,⟨a1,n1,c1⟩,⟨a2,n2,c2⟩,⟨a3,n3,c3⟩,⟨a4,n4,c4⟩⟩)):=Bex.of_alloc (w:=w) (mid_alloc' (mid_alloc' (mid_alloc' (Below.refl _ _))))
 have HEx:Hid (Bex ((((w.alloc (.cells #[.int .i64 t1,.int .i64 t2,.int .i64 t3,.slice a1 n1 c1,.slice a2 n2 c2,.slice a3 n3 c3,.slice a4 n4 c4] 27)).alloc (.cells #[.int .i64 x.term,.int .i8 x.kind,.int .i64 x.stamp,B x.set,.slice px.1 x.data.length px.2] 45)).alloc (.cells #[.int .i64 0,.int .i64 0,.int .i64 0,.slice none 0 0,.slice none 0 0,.slice none 0 0,.slice none 0 0] 27)).alloc (.cells #[.int .i64 0,.int .i64 0,.int .i64 0,.int .i64 0,.int .i64 0] 40)) (w.heap.size+1) (cellsEnt x px)):=by
  have:=Bex.of_alloc (w:=w.alloc (.cells #[.int .i64 t1,.int .i64 t2,.int .i64 t3,.slice a1 n1 c1,.slice a2 n2 c2,.slice a3 n3 c3,.slice a4 n4 c4] 27)) (cs:=cellsEnt x px) (t:=45) (mid_alloc' (mid_alloc' (Below.refl _ _)):Below _ _ ((((w.alloc (.cells #[.int .i64 t1,.int .i64 t2,.int .i64 t3,.slice a1 n1 c1,.slice a2 n2 c2,.slice a3 n3 c3,.slice a4 n4 c4] 27)).alloc (.cells #[.int .i64 x.term,.int .i8 x.kind,.int .i64 x.stamp,B x.set,.slice px.1 x.data.length px.2] 45)).alloc (.cells #[.int .i64 0,.int .i64 0,.int .i64 0,.slice none 0 0,.slice none 0 0,.slice none 0 0,.slice none 0 0] 27)).alloc (.cells #[.int .i64 0,.int .i64 0,.int .i64 0,.int .i64 0,.int .i64 0] 40)))
  rw[World.size_alloc]at this;exact this
 have HRx:Hid (Bex ((((w.alloc (.cells #[.int .i64 t1,.int .i64 t2,.int .i64 t3,.slice a1 n1 c1,.slice a2 n2 c2,.slice a3 n3 c3,.slice a4 n4 c4] 27)).alloc (.cells #[.int .i64 x.term,.int .i8 x.kind,.int .i64 x.stamp,B x.set,.slice px.1 x.data.length px.2] 45)).alloc (.cells #[.int .i64 0,.int .i64 0,.int .i64 0,.slice none 0 0,.slice none 0 0,.slice none 0 0,.slice none 0 0] 27)).alloc (.cells #[.int .i64 0,.int .i64 0,.int .i64 0,.int .i64 0,.int .i64 0] 40)) (w.heap.size+1+ 1) (Raw.cells ⟨0,0,0,⟨none,0,0⟩,⟨none,0,0⟩,⟨none,0,0⟩,⟨none,0,0⟩⟩)):=by
  have:=Bex.of_alloc (w:=(w.alloc (.cells #[.int .i64 t1,.int .i64 t2,.int .i64 t3,.slice a1 n1 c1,.slice a2 n2 c2,.slice a3 n3 c3,.slice a4 n4 c4] 27)).alloc (.cells #[.int .i64 x.term,.int .i8 x.kind,.int .i64 x.stamp,B x.set,.slice px.1 x.data.length px.2] 45)) (cs:=Raw.cells ⟨0,0,0,⟨none,0,0⟩,⟨none,0,0⟩,⟨none,0,0⟩,⟨none,0,0⟩⟩) (t:=27) (mid_alloc' (Below.refl _ _):Below _ _ ((((w.alloc (.cells #[.int .i64 t1,.int .i64 t2,.int .i64 t3,.slice a1 n1 c1,.slice a2 n2 c2,.slice a3 n3 c3,.slice a4 n4 c4] 27)).alloc (.cells #[.int .i64 x.term,.int .i8 x.kind,.int .i64 x.stamp,B x.set,.slice px.1 x.data.length px.2] 45)).alloc (.cells #[.int .i64 0,.int .i64 0,.int .i64 0,.slice none 0 0,.slice none 0 0,.slice none 0 0,.slice none 0 0] 27)).alloc (.cells #[.int .i64 0,.int .i64 0,.int .i64 0,.int .i64 0,.int .i64 0] 40)))
  rw[World.size_alloc,World.size_alloc]at this;exact this
 have HAx:Hid (Bex ((((w.alloc (.cells #[.int .i64 t1,.int .i64 t2,.int .i64 t3,.slice a1 n1 c1,.slice a2 n2 c2,.slice a3 n3 c3,.slice a4 n4 c4] 27)).alloc (.cells #[.int .i64 x.term,.int .i8 x.kind,.int .i64 x.stamp,B x.set,.slice px.1 x.data.length px.2] 45)).alloc (.cells #[.int .i64 0,.int .i64 0,.int .i64 0,.slice none 0 0,.slice none 0 0,.slice none 0 0,.slice none 0 0] 27)).alloc (.cells #[.int .i64 0,.int .i64 0,.int .i64 0,.int .i64 0,.int .i64 0] 40)) (w.heap.size+1+ 1+1) zAns.cells):=by
  have:=ans_new (((w.alloc (.cells #[.int .i64 t1,.int .i64 t2,.int .i64 t3,.slice a1 n1 c1,.slice a2 n2 c2,.slice a3 n3 c3,.slice a4 n4 c4] 27)).alloc (.cells #[.int .i64 x.term,.int .i8 x.kind,.int .i64 x.stamp,B x.set,.slice px.1 x.data.length px.2] 45)).alloc (.cells #[.int .i64 0,.int .i64 0,.int .i64 0,.slice none 0 0,.slice none 0 0,.slice none 0 0,.slice none 0 0] 27))
  rw[World.size_alloc,World.size_alloc,World.size_alloc]at this;exact this
 have HSx:Hid (StAt ((((w.alloc (.cells #[.int .i64 t1,.int .i64 t2,.int .i64 t3,.slice a1 n1 c1,.slice a2 n2 c2,.slice a3 n3 c3,.slice a4 n4 c4] 27)).alloc (.cells #[.int .i64 x.term,.int .i8 x.kind,.int .i64 x.stamp,B x.set,.slice px.1 x.data.length px.2] 45)).alloc (.cells #[.int .i64 0,.int .i64 0,.int .i64 0,.slice none 0 0,.slice none 0 0,.slice none 0 0,.slice none 0 0] 27)).alloc (.cells #[.int .i64 0,.int .i64 0,.int .i64 0,.int .i64 0,.int .i64 0] 40)) 0 ⟨t1,t2,t3,⟨a1,n1,c1⟩,⟨a2,n2,c2⟩,⟨a3,n3,c3⟩,⟨a4,n4,c4⟩⟩ s):=h.below HBx.out
 clear h
 go_enter Tryz.func15,Tryz.ntmps15
 go_upto_region 1 with fail
 obtain⟨w1,hw1⟩:∃y,y=((((w.alloc (.cells #[.int .i64 t1,.int .i64 t2,.int .i64 t3,.slice a1 n1 c1,.slice a2 n2 c2,.slice a3 n3 c3,.slice a4 n4 c4] 27)).alloc (.cells #[.int .i64 x.term,.int .i8 x.kind,.int .i64 x.stamp,B x.set,.slice px.1 x.data.length px.2] 45)).alloc (.cells #[.int .i64 0,.int .i64 0,.int .i64 0,.slice none 0 0,.slice none 0 0,.slice none 0 0,.slice none 0 0] 27)).alloc (.cells #[.int .i64 0,.int .i64 0,.int .i64 0,.int .i64 0,.int .i64 0] 40)):=⟨_,rfl⟩
 rw[←hw1]at HBx HGx HEx HRx HAx HSx ⊢
 have hz1:w.heap.size+ 1+1+ 1<w1.heap.size:= HAx.out.lt
 clear hw1
 have k0:=HEx.out.box.cell (j:=0) rfl
 go_upto_region 2 with(first|((with_reducible refine at_load 27 (.tmp 2) ?_);refine wpList_load_as laySt rfl (.tmp 2) rfl w.heap.size 0 rfl ⟨t1,t2,t3,⟨a1,n1,c1⟩,⟨a2,n2,c2⟩,⟨a3,n3,c3⟩,⟨a4,n4,c4⟩⟩ (.agg #[.int .i64 t1,.int .i64 t2,.int .i64 t3,.slice a1 n1 c1,.slice a2 n2 c2,.slice a3 n3 c3,.slice a4 n4 c4]) rfl HGx.out.box.range ?_)|(go_at_call 22;((with_reducible refine(own_any s _ 0 w1 HSx.out (by omega) (by omega) (by omega) (by omega)).mono ?_);rintro e w2 ⟨⟨u1,u2,u3,⟨b1,m1,d1⟩,⟨b2,m2,d2⟩,⟨b3,m3,d3⟩,⟨b4,m4,d4⟩⟩,rfl,hst,hb⟩;have HN:=Lib.hid (StAt.mono (B':=w.heap.size) hst (by omega));replace HBx:=Lib.hid (HBx.out.trans (hb.mono HBx.out.size));replace HGx:=Lib.hid (HGx.out.next hb);replace HEx:=Lib.hid (HEx.out.next hb);replace HRx:=Lib.hid (HRx.out.next hb);replace HAx:=Lib.hid (HAx.out.next hb);clear hst hb HSx))|((with_reducible refine at_store 27 (.tmp 2) (.tmp 13) ?_);refine wpList_store_bex laySt rfl (.tmp 2) (.tmp 13) rfl w.heap.size ⟨u1,u2,u3,⟨b1,m1,d1⟩,⟨b2,m2,d2⟩,⟨b3,m3,d3⟩,⟨b4,m4,d4⟩⟩ _ rfl rfl HGx.out rfl ?_;intro w3 hx hw;have HSx:=Lib.hid (HN.out.wrote HGx.out (misfits_st _) hw);replace HBx:=Lib.hid (HBx.out.trans (hw.below _ (Nat.le_refl _)));replace HGx:=Lib.hid hx;replace HEx:=Lib.hid (HEx.out.wrote hw (by omega));replace HRx:=Lib.hid (HRx.out.wrote hw (by omega));replace HAx:=Lib.hid (HAx.out.wrote hw (by omega));clear hx hw HN k0))
 have hz3:w.heap.size+ 1+1+ 1<w3.heap.size:= HAx.out.lt
 have k0:=HEx.out.box.cell (j:=0) rfl
 have k1:=HEx.out.box.cell (j:=1) rfl
 have k2:=HEx.out.box.cell (j:=2) rfl
 have q1:decide (x.term<1)=false:= decide_eq_false (by omega)
 have q2:decide (x.stamp<0)=false:= decide_eq_false (by omega)
 have q3:decide (x.kind<0)=false:= decide_eq_false (by omega)
 have q4:decide (2<x.kind)=false:= decide_eq_false (by omega)
 go_upto_region 5 with(first|(go_at_call 21;((with_reducible refine(check_sta s _ _ w3 HSx.out (by omega) (by omega) (by omega) (by omega)).mono ?_);rw[HOK.out];rintro e w4 ⟨rfl,hb⟩;replace HBx:=Lib.hid (HBx.out.trans (hb.mono HBx.out.size));replace HGx:=Lib.hid (HGx.out.next hb);replace HEx:=Lib.hid (HEx.out.next hb);replace HRx:=Lib.hid (HRx.out.next hb);replace HAx:=Lib.hid (HAx.out.next hb);replace HSx:=Lib.hid (HSx.out.below hb);have hz4:=hb.size;clear hb k0 k1 k2))|((with_reducible refine at_load 27 (.tmp 2) ?_);refine wpList_strip (by rfl) ?_;refine wpList_load_as laySt rfl (.tmp 2) rfl w.heap.size 0 rfl ⟨u1,u2,u3,⟨b1,m1,d1⟩,⟨b2,m2,d2⟩,⟨b3,m3,d3⟩,⟨b4,m4,d4⟩⟩ (.agg #[.int .i64 u1,.int .i64 u2,.int .i64 u3,.slice b1 m1 d1,.slice b2 m2 d2,.slice b3 m3 d3,.slice b4 m4 d4]) rfl HGx.out.box.range ?_))
 clear hz3 hz1
 replace hz4:w.heap.size+ 1+1+ 1<w4.heap.size:= HAx.out.lt
 have e0:=HEx.out.box.cell (j:=0) rfl
 have e2:=HEx.out.box.cell (j:=2) rfl
 have g0:=HGx.out.box.cell (j:=0) rfl
 have g1:=HGx.out.box.cell (j:=1) rfl
 simp only[Raw.cells]at g0 g1
 go_upto_if 43 with fail
 go_cut [6]from 43 to 49 (fun v wx=> .int .i64 tk=v∧ w4=wx)
 case first=>
  by_cases ht:x.term= u1
  ·have hbt:(x.term==u1)=true:= by simpa using ht
   have HT:=Lib.hid ht
   clear HAP HCS HCK HCR ht
   go_wp2_with fail
   all_goals
    go_meet
    refine⟨?_,rfl⟩
    have ht:=HT.out
    have ht2:x.term= s.term:=ht.trans HSx.out.term
    have hu2:u2= s.stamp:=HSx.out.stamp
    have hs0:=(stateOk_parts HOK.out).2.1
    have h1:=HI1.out
    have h2:=HI2.out
    have h3:=HTK.out
    rw[if_pos ht2]at h3
    have h4:wrap64 (x.stamp-u2)=x.stamp- s.stamp:=by rw[hu2];unfold wrap64;unfold InI at h1 h2;omega
    congr 1
    omega
  ·have hbt:(x.term==u1)=false:= by simpa using ht
   have HT:=Lib.hid ht
   clear HAP HCS HCK HCR ht
   go_wp2_with fail
   go_meet
   refine⟨?_,rfl⟩
   have ht:=HT.out
   have ht2:¬x.term= s.term:=fun h=>ht (h.trans HSx.out.term.symm)
   have h3:=HTK.out
   rw[if_neg ht2]at h3
   rw[h3]
 case rest=>
  obtain⟨rfl,rfl⟩:=hcut
  have hz5:w.heap.size+ 1+1+ 1<w4.heap.size:= HAx.out.lt
  go_upto_region 8 with(first|((with_reducible refine at_load 27 (.tmp 2) ?_);refine wpList_load_as laySt rfl (.tmp 2) rfl w.heap.size 0 rfl ⟨u1,u2,u3,⟨b1,m1,d1⟩,⟨b2,m2,d2⟩,⟨b3,m3,d3⟩,⟨b4,m4,d4⟩⟩ (.agg #[.int .i64 u1,.int .i64 u2,.int .i64 u3,.slice b1 m1 d1,.slice b2 m2 d2,.slice b3 m3 d3,.slice b4 m4 d4]) rfl HGx.out.box.range ?_)|(go_at_call 28;((with_reducible refine(HCR.out _ _ HSx.out).mono ?_);rintro e w5 ⟨⟨v1,v2,v3,⟨b1,m1,d1⟩,⟨b2,m2,d2⟩,⟨b3,m3,d3⟩,⟨b4,m4,d4⟩⟩,rfl,hst,hb⟩;have HN:=Lib.hid (StAt.mono (B':=w.heap.size) hst (by omega));replace HBx:=Lib.hid (HBx.out.trans (hb.mono HBx.out.size));replace HGx:=Lib.hid (HGx.out.next hb);replace HEx:=Lib.hid (HEx.out.next hb);replace HRx:=Lib.hid (HRx.out.next hb);replace HAx:=Lib.hid (HAx.out.next hb);clear hst hb HSx))|((with_reducible refine at_store 27 (.tmp 2) (.tmp 52) ?_);refine wpList_store_bex laySt rfl (.tmp 2) (.tmp 52) rfl w.heap.size ⟨v1,v2,v3,⟨b1,m1,d1⟩,⟨b2,m2,d2⟩,⟨b3,m3,d3⟩,⟨b4,m4,d4⟩⟩ _ rfl rfl HGx.out rfl ?_;intro w6 hx hw;have HSx:=Lib.hid (HN.out.wrote HGx.out (misfits_st _) hw);replace HBx:=Lib.hid (HBx.out.trans (hw.below _ (by omega)));replace HEx:=Lib.hid (HEx.out.wrote hw (by omega));replace HRx:=Lib.hid (HRx.out.wrote hw (by omega));replace HAx:=Lib.hid (HAx.out.wrote hw (by omega));replace HGx:=Lib.hid hx;clear hx hw HN))
  simp only[Act.put]
  clear hz5 hz4 e0 e2 g0 g1
  have hz6:w.heap.size+ 1+1+ 1<w6.heap.size:= HAx.out.lt
  go_cut []from 53 to 58 (fun wx=>Hid (Bex wx w.heap.size (Raw.cells ⟨x.term,x.stamp,v3,⟨b1,m1,d1⟩,⟨b2,m2,d2⟩,⟨b3,m3,d3⟩,⟨b4,m4,d4⟩⟩))∧Hid (StAt wx w.heap.size ⟨x.term,x.stamp,v3,⟨b1,m1,d1⟩,⟨b2,m2,d2⟩,⟨b3,m3,d3⟩,⟨b4,m4,d4⟩⟩ cs)∧Hid (Bex wx (w.heap.size+1) (cellsEnt x px))∧Hid (Bex wx (w.heap.size+1+ 1) (Raw.cells ⟨0,0,0,⟨none,0,0⟩,⟨none,0,0⟩,⟨none,0,0⟩,⟨none,0,0⟩⟩))∧Hid (Bex wx (w.heap.size+1+ 1+1) zAns.cells)∧Hid (Below w.heap.size w wx))
  case first=>
   refine wrq (fun l w'=>(w'.cell? ⟨w.heap.size+1,0,none⟩=some (.int .i64 x.term)∧w'.cell? ⟨w.heap.size+1,2,none⟩=some (.int .i64 x.stamp))) ?_
   refine toS ⟨HEx.out.box.cell (j:=0) rfl,HEx.out.box.cell (j:=2) rfl⟩ ?_
   refine tkq 0 ?_
   refine tkq 1 ?_
   refine tkq 2 ?_
   refine tkq 3 ?_
   refine tkq 4 ?_
   refine soq 5 (fun K hK=> ?_)
   refine op_field_bex (.tmp 57) (.tmp 54) rfl size1_int w.heap.size 0 _ (.int .i64 x.term) rfl rfl rfl rfl HGx.out.drew (show 0<7 by decide) ?_
   intro wa hx hw
   replace hw:Wrote w.heap.size w6 wa:=⟨fun B hB=>(fun h=>⟨h.os,h.tape,h.output,h.size,h.block⟩) (hw.below B hB),hw.size,hw.keep⟩
   have h:=HSx.out.wrote HGx.out (misfits_st _) hw
   replace HSx:Hid (StAt wa w.heap.size ⟨x.term,v2,v3,⟨b1,m1,d1⟩,⟨b2,m2,d2⟩,⟨b3,m3,d3⟩,⟨b4,m4,d4⟩⟩ {cr with term:=x.term}):=Lib.hid ⟨rfl,h.stamp,h.next,h.ten,h.lea,h.ses,h.dsk⟩
   replace HGx:Hid (Bex wa w.heap.size (Raw.cells ⟨x.term,v2,v3,⟨b1,m1,d1⟩,⟨b2,m2,d2⟩,⟨b3,m3,d3⟩,⟨b4,m4,d4⟩⟩)):=hx
   replace HBx:=Lib.hid (HBx.out.trans (hw.below _ (by omega)))
   replace HEx:=Lib.hid (HEx.out.wrote hw (by omega))
   replace HRx:=Lib.hid (HRx.out.wrote hw (by omega))
   replace HAx:=Lib.hid (HAx.out.wrote hw (by omega))
   clear hx hw h
   refine hK.out _ _ ⟨HEx.out.box.cell (j:=0) rfl,HEx.out.box.cell (j:=2) rfl⟩ ?_
   clear hK K
   refine tkq 6 ?_
   refine soq 7 (fun K hK=> ?_)
   refine op_field_bex (.tmp 58) (.tmp 56) rfl size1_int w.heap.size 1 _ (.int .i64 x.stamp) rfl rfl rfl rfl HGx.out (show 1<7 by decide) ?_
   intro wb hx hw
   have h:=HSx.out.wrote HGx.out (misfits_st _) hw
   replace HSx:Hid (StAt wb w.heap.size ⟨x.term,x.stamp,v3,⟨b1,m1,d1⟩,⟨b2,m2,d2⟩,⟨b3,m3,d3⟩,⟨b4,m4,d4⟩⟩ {cr with term:=x.term,stamp:=x.stamp}):=Lib.hid ⟨h.term,rfl,h.next,h.ten,h.lea,h.ses,h.dsk⟩
   replace HGx:Hid (Bex wb w.heap.size (Raw.cells ⟨x.term,x.stamp,v3,⟨b1,m1,d1⟩,⟨b2,m2,d2⟩,⟨b3,m3,d3⟩,⟨b4,m4,d4⟩⟩)):=hx
   replace HBx:=Lib.hid (HBx.out.trans (hw.below _ (by omega)))
   replace HEx:=Lib.hid (HEx.out.wrote hw (by omega))
   replace HRx:=Lib.hid (HRx.out.wrote hw (by omega))
   replace HAx:=Lib.hid (HAx.out.wrote hw (by omega))
   clear hx hw h
   refine hK.out _ _ ⟨HEx.out.box.cell (j:=0) rfl,HEx.out.box.cell (j:=2) rfl⟩ ?_
   clear hK K
   refine sdq ?_
   go_wp2_with fail
   go_meet
   exact⟨HGx,by rw[HCS.out];exact HSx,HEx,HRx,HAx,HBx⟩
  case rest=>
   obtain⟨HGx,HSx,HEx,HRx,HAx,HBx⟩:=hcut
   by_cases hk:x.kind= 2
   ·have HK:=Lib.hid hk
    have hbk:(x.kind !=2)=false:= by simp[hk]
    have HAP2:=Lib.hid ((HAP.out).trans (if_neg (by simp[hk])))
    have ek:=HEx.out.box.cell (j:=1) rfl
    have ed:=HEx.out.box.cell (j:=4) rfl
    clear hk HAP
    have hz7:w.heap.size+ 1+1+ 1<wc.heap.size:= HAx.out.lt
    go_upto_region 13 with(first|(go_at_call 29;((with_reducible refine(HRD.out _ (HDT.out.1.below HBx.out)).mono ?_);rintro e w8 ⟨⟨p0,p1⟩,rfl,hm,hb⟩;have HM:=Lib.hid (And.intro hm.row.row hm.le);have hz8:=hb.size;replace HBx:=Lib.hid (HBx.out.trans (hb.mono HBx.out.size));replace HGx:=Lib.hid (HGx.out.next hb);replace HEx:=Lib.hid (HEx.out.next hb);replace HRx:=Lib.hid (HRx.out.next hb);replace HAx:=Lib.hid (HAx.out.next hb);replace HSx:=Lib.hid (HSx.out.below hb);clear hm hb))|((with_reducible refine at_store 54 (.tmp 7) (.tmp 68) ?_);refine wpList_store_bex layCmd rfl (.tmp 7) (.tmp 68) rfl w8.heap.size (⟨kd,cl,nu,te,ra,bu,sh,ep,le,sz,sp,co,ls⟩,(p0,p1)) _ rfl rfl (Bex.new _ _ _) rfl ?_;intro w9 hx hw;have hb:=((Below.refl w8.heap.size w8).alloc (Nat.le_refl _) _).trans (hw.below _ (Nat.le_refl _));have HC9:Hid (CmdAt w9 w8.heap.size ⟨kd,cl,nu,te,ra,bu,sh,ep,le,sz,sp,co,ls⟩ (p0,p1)):=Lib.hid ⟨hx,cmd_row (HM.out.1.below hb),HM.out.2⟩;have HGC:=hx.lt;replace HBx:=Lib.hid (HBx.out.trans (hb.mono HBx.out.size));replace HGx:=Lib.hid (HGx.out.next hb);replace HEx:=Lib.hid (HEx.out.next hb);replace HRx:=Lib.hid (HRx.out.next hb);replace HAx:=Lib.hid (HAx.out.next hb);replace HSx:=Lib.hid (HSx.out.below hb);clear hx hw hb HM)|(go_at_call 30;((with_reducible refine(ways_any _).mono ?_);rintro e w10 ⟨g1,g2,g3,rfl,h1,h2,h3,hb⟩;replace HC9:=Lib.hid (HC9.out.next hb);have hz10:=hb.size;have HF1:=Lib.hid h1;have HF2:=Lib.hid h2;have HF3:=Lib.hid h3;replace HBx:=Lib.hid (HBx.out.trans (hb.mono HBx.out.size));replace HGx:=Lib.hid (HGx.out.next hb);replace HEx:=Lib.hid (HEx.out.next hb);replace HRx:=Lib.hid (HRx.out.next hb);replace HAx:=Lib.hid (HAx.out.next hb);replace HSx:=Lib.hid (HSx.out.below hb);clear h1 h2 h3 hb))|((with_reducible refine at_store 70 (.tmp 10) (.tmp 71) ?_);refine wpList_store_bex layWays rfl (.tmp 10) (.tmp 71) rfl w10.heap.size (g1,g2,g3) _ rfl rfl (Bex.new _ _ _) rfl ?_;intro w11 hx hw;have hb:=((Below.refl w10.heap.size w10).alloc (Nat.le_refl _) _).trans (hw.below _ (Nat.le_refl _));have HWY:=Lib.hid hx;replace HC9:=Lib.hid (HC9.out.next hb);replace HF1:=Lib.hid (HF1.out.next hb);replace HF2:=Lib.hid (HF2.out.next hb);replace HF3:=Lib.hid (HF3.out.next hb);replace HBx:=Lib.hid (HBx.out.trans (hb.mono HBx.out.size));replace HGx:=Lib.hid (HGx.out.next hb);replace HEx:=Lib.hid (HEx.out.next hb);replace HRx:=Lib.hid (HRx.out.next hb);replace HAx:=Lib.hid (HAx.out.next hb);replace HSx:=Lib.hid (HSx.out.below hb);clear hx hw hb))
    have kk:=HC9.out.box.box.cell (j:=0) rfl
    have kz:=HWY.out.box.cell (j:=0) rfl
    by_cases hen:en= 0
    ·have hbe:(en !=0)=false:= by simp[hen]
     have hz11:w.heap.size+ 1+1+ 1<w11.heap.size:= HAx.out.lt
     obtain⟨hgood,hlen⟩:=HGD.out hen
     have hq:=HAP2.out
     rw[if_neg (by simpa using hen)]at hq
     have hkr:kd< 0∨kd= 0∨7≤ kd∨(1≤kd∧ kd≤6):=by omega
     have hkb: -128≤ kd∧kd< 128:=hgood.1
     rcases hkr with h0|h0| h0|⟨h0,h6⟩
     ·have HQ:Hid (res=(cs,Ans.err 2)):=Lib.hid (by rw[hq];unfold doC;simp only;repeat(first|rw [if_neg (by omega)]|rfl))
      have dk0:decide (kd<0)=true:= decide_eq_true h0
      clear hq hgood hlen HAP2 hen
      go_wp2_with(first|((with_reducible refine at_load 27 (.tmp 2) ?_);refine wpList_load_as laySt rfl (.tmp 2) rfl w.heap.size 0 rfl ⟨x.term,x.stamp,v3,⟨b1,m1,d1⟩,⟨b2,m2,d2⟩,⟨b3,m3,d3⟩,⟨b4,m4,d4⟩⟩ (.agg #[.int .i64 x.term,.int .i64 x.stamp,.int .i64 v3,.slice b1 m1 d1,.slice b2 m2 d2,.slice b3 m3 d3,.slice b4 m4 d4]) rfl HGx.out.box.range ?_)|((with_reducible refine at_store 27 (.tmp 4) (.tmp 92) ?_);refine wpList_store_bex laySt rfl (.tmp 4) (.tmp 92) rfl (w.heap.size+1+ 1) ⟨x.term,x.stamp,v3,⟨b1,m1,d1⟩,⟨b2,m2,d2⟩,⟨b3,m3,d3⟩,⟨b4,m4,d4⟩⟩ _ rfl rfl HRx.out rfl ?_;intro wy hx hw;have HSy:=Lib.hid (HSx.out.wrote HRx.out (misfits_st _) hw);have HRy:=Lib.hid hx;have HAy:=Lib.hid (HAx.out.wrote hw (by omega));have HBy:=Lib.hid (HBx.out.trans (hw.below _ (by omega)));clear hx hw)|((with_reducible refine at_store 40 (.tmp 5) (.tmp 93) ?_);refine wpList_store_bex layAns rfl (.tmp 5) (.tmp 93) rfl (w.heap.size+1+ 1+1) (Ans.err 2) _ rfl rfl HAy.out rfl ?_;intro wz hx hw;have HSz:=Lib.hid (HSy.out.wrote HAy.out (misfits_ans _) hw);have HRz:=Lib.hid (HRy.out.wrote hw (by omega));have HAz:=Lib.hid hx;have HBz:=Lib.hid (HBy.out.trans (hw.below _ (by omega)));clear hx hw))
      obtain⟨z0,z1,z2,z3,z4,z5,z6⟩:=cellsSt0 HRz.out.box.range
      obtain⟨j0,j1,j2,j3,j4⟩:=ans_cells HAz.out
      refine bodyPost_ret (v:= .tuple #[Raw.agg ⟨x.term,x.stamp,v3,⟨b1,m1,d1⟩,⟨b2,m2,d2⟩,⟨b3,m3,d3⟩,⟨b4,m4,d4⟩⟩,Ans.agg (Ans.err 2)]) (by simp[results,Tryz.results15,Ans.err,go_sem,z0,z1,z2,z3,z4,z5,z6,j0,j1,j2,j3,j4]) rfl ?_
      rw[HQ.out]
      exact⟨_,rfl,HSz.out,HBz.out⟩
     ·have HQ:Hid (res=(cs,Ans.err 2)):=Lib.hid (by rw[hq];unfold doC;simp only;repeat(first|rw [if_neg (by omega)]|rfl))
      subst h0
      have hfn:=fn_none w11
      clear hq hgood hlen HAP2 hen
      go_wp2_with(first|((with_reducible refine at_load 27 (.tmp 2) ?_);refine wpList_load_as laySt rfl (.tmp 2) rfl w.heap.size 0 rfl ⟨x.term,x.stamp,v3,⟨b1,m1,d1⟩,⟨b2,m2,d2⟩,⟨b3,m3,d3⟩,⟨b4,m4,d4⟩⟩ (.agg #[.int .i64 x.term,.int .i64 x.stamp,.int .i64 v3,.slice b1 m1 d1,.slice b2 m2 d2,.slice b3 m3 d3,.slice b4 m4 d4]) rfl HGx.out.box.range ?_)|((with_reducible refine at_store 27 (.tmp 4) (.tmp 92) ?_);refine wpList_store_bex laySt rfl (.tmp 4) (.tmp 92) rfl (w.heap.size+1+ 1) ⟨x.term,x.stamp,v3,⟨b1,m1,d1⟩,⟨b2,m2,d2⟩,⟨b3,m3,d3⟩,⟨b4,m4,d4⟩⟩ _ rfl rfl HRx.out rfl ?_;intro wy hx hw;have HSy:=Lib.hid (HSx.out.wrote HRx.out (misfits_st _) hw);have HRy:=Lib.hid hx;have HAy:=Lib.hid (HAx.out.wrote hw (by omega));have HBy:=Lib.hid (HBx.out.trans (hw.below _ (by omega)));clear hx hw)|((with_reducible refine at_store 40 (.tmp 5) (.tmp 93) ?_);refine wpList_store_bex layAns rfl (.tmp 5) (.tmp 93) rfl (w.heap.size+1+ 1+1) (Ans.err 2) _ rfl rfl HAy.out rfl ?_;intro wz hx hw;have HSz:=Lib.hid (HSy.out.wrote HAy.out (misfits_ans _) hw);have HRz:=Lib.hid (HRy.out.wrote hw (by omega));have HAz:=Lib.hid hx;have HBz:=Lib.hid (HBy.out.trans (hw.below _ (by omega)));clear hx hw))
      obtain⟨z0,z1,z2,z3,z4,z5,z6⟩:=cellsSt0 HRz.out.box.range
      obtain⟨j0,j1,j2,j3,j4⟩:=ans_cells HAz.out
      refine bodyPost_ret (v:= .tuple #[Raw.agg ⟨x.term,x.stamp,v3,⟨b1,m1,d1⟩,⟨b2,m2,d2⟩,⟨b3,m3,d3⟩,⟨b4,m4,d4⟩⟩,Ans.agg (Ans.err 2)]) (by simp[results,Tryz.results15,Ans.err,go_sem,z0,z1,z2,z3,z4,z5,z6,j0,j1,j2,j3,j4]) rfl ?_
      rw[HQ.out]
      exact⟨_,rfl,HSz.out,HBz.out⟩
     ·have HQ:Hid (res=(cs,Ans.err 2)):=Lib.hid (by rw[hq];unfold doC;simp only;repeat(first|rw [if_neg (by omega)]|rfl))
      have dk0:decide (kd<0)=false:= decide_eq_false (by omega)
      have dk1:decide (7≤kd)=true:= decide_eq_true h0
      have dk2:wrap64 kd=kd:= by unfold wrap64;omega
      clear hq hgood hlen HAP2 hen
      go_wp2_with(first|((with_reducible refine at_load 27 (.tmp 2) ?_);refine wpList_load_as laySt rfl (.tmp 2) rfl w.heap.size 0 rfl ⟨x.term,x.stamp,v3,⟨b1,m1,d1⟩,⟨b2,m2,d2⟩,⟨b3,m3,d3⟩,⟨b4,m4,d4⟩⟩ (.agg #[.int .i64 x.term,.int .i64 x.stamp,.int .i64 v3,.slice b1 m1 d1,.slice b2 m2 d2,.slice b3 m3 d3,.slice b4 m4 d4]) rfl HGx.out.box.range ?_)|((with_reducible refine at_store 27 (.tmp 4) (.tmp 92) ?_);refine wpList_store_bex laySt rfl (.tmp 4) (.tmp 92) rfl (w.heap.size+1+ 1) ⟨x.term,x.stamp,v3,⟨b1,m1,d1⟩,⟨b2,m2,d2⟩,⟨b3,m3,d3⟩,⟨b4,m4,d4⟩⟩ _ rfl rfl HRx.out rfl ?_;intro wy hx hw;have HSy:=Lib.hid (HSx.out.wrote HRx.out (misfits_st _) hw);have HRy:=Lib.hid hx;have HAy:=Lib.hid (HAx.out.wrote hw (by omega));have HBy:=Lib.hid (HBx.out.trans (hw.below _ (by omega)));clear hx hw)|((with_reducible refine at_store 40 (.tmp 5) (.tmp 93) ?_);refine wpList_store_bex layAns rfl (.tmp 5) (.tmp 93) rfl (w.heap.size+1+ 1+1) (Ans.err 2) _ rfl rfl HAy.out rfl ?_;intro wz hx hw;have HSz:=Lib.hid (HSy.out.wrote HAy.out (misfits_ans _) hw);have HRz:=Lib.hid (HRy.out.wrote hw (by omega));have HAz:=Lib.hid hx;have HBz:=Lib.hid (HBy.out.trans (hw.below _ (by omega)));clear hx hw))
      obtain⟨z0,z1,z2,z3,z4,z5,z6⟩:=cellsSt0 HRz.out.box.range
      obtain⟨j0,j1,j2,j3,j4⟩:=ans_cells HAz.out
      refine bodyPost_ret (v:= .tuple #[Raw.agg ⟨x.term,x.stamp,v3,⟨b1,m1,d1⟩,⟨b2,m2,d2⟩,⟨b3,m3,d3⟩,⟨b4,m4,d4⟩⟩,Ans.agg (Ans.err 2)]) (by simp[results,Tryz.results15,Ans.err,go_sem,z0,z1,z2,z3,z4,z5,z6,j0,j1,j2,j3,j4]) rfl ?_
      rw[HQ.out]
      exact⟨_,rfl,HSz.out,HBz.out⟩
     ·obtain⟨F,cap,f,hcell,hway,hdo,hent⟩:=ways_at h0 h6 HF1.out HF2.out HF3.out cs ⟨kd,cl,nu,te,ra,bu,sh,ep,le,sz,sp,co,ls⟩ rfl
      have HQ:Hid (res=f cs ⟨kd,cl,nu,te,ra,bu,sh,ep,le,sz,sp,co,ls⟩):=hq.trans hdo
      have HWAY:=Lib.hid hway
      have HENT:=Lib.hid hent
      have HGL:=Lib.hid (And.intro hgood hlen)
      have hck:=HWY.out.box.cell hcell
      have dk0:decide (kd<0)=false:= decide_eq_false (by omega)
      have dk1:decide (7≤kd)=false:= decide_eq_false (by omega)
      have dk2:wrap64 kd=kd:= by unfold wrap64;omega
      have HWC:Hid (Calls Tryz.prog F (#[.pointer (some ⟨w.heap.size,0,none⟩),.pointer (some ⟨w8.heap.size,0,none⟩)]++cap) w11 (WayPost w11 w.heap.size (f cs ⟨kd,cl,nu,te,ra,bu,sh,ep,le,sz,sp,co,ls⟩))):=Lib.hid (hway cs ⟨x.term,x.stamp,v3,⟨b1,m1,d1⟩,⟨b2,m2,d2⟩,⟨b3,m3,d3⟩,⟨b4,m4,d4⟩⟩ ⟨kd,cl,nu,te,ra,bu,sh,ep,le,sz,sp,co,ls⟩ (p0,p1) _ _ w11 HGx.out (HSx.out.mono (Nat.zero_le _)) HC9.out (by omega) HCK.out hgood hlen (Below.refl _ _))
      obtain⟨hm1,hm2,hm3,hm4⟩:Small (f cs ⟨kd,cl,nu,te,ra,bu,sh,ep,le,sz,sp,co,ls⟩).1:=by rw[←hdo];exact ok_small (doC_ok HCK.out _)
      have hfe:=fn_some F cap w11
      clear hq hgood hlen HAP2 hen hway hdo hcell HWAY HENT HGL HCK
      generalize f cs ⟨kd,cl,nu,te,ra,bu,sh,ep,le,sz,sp,co,ls⟩=fr at HQ HWC hm1 hm2 hm3 hm4
      obtain⟨rs,⟨be,br,bb,bl,bz⟩⟩:=fr
      simp only at hm1 hm2 hm3 hm4
      go_upto_region 16 with(first|((with_reducible refine HWC.out.mono ?_);rintro e w12 ⟨rfl,q2,hg2,hs2,ho2⟩;obtain⟨q1,q2,q3,⟨l1,j1,i1⟩,⟨l2,j2,i2⟩,⟨l3,j3,i3⟩,⟨l4,j4,i4⟩⟩:=q2;replace HGx:=Lib.hid hg2;replace HSx:=Lib.hid hs2;replace HRx:=Lib.hid (HRx.out.only ho2 (by omega));replace HAx:=Lib.hid (HAx.out.only ho2 (by omega));replace HBx:=Lib.hid (HBx.out.trans (ho2.below (Nat.le_refl _) (by omega)));have hz12:=ho2.size;clear hg2 hs2 ho2 HC9 HEx HF1 HF2 HF3 HWY kk kz hck)|((with_reducible refine at_store 40 (.tmp 11) (.tmp 98) ?_);refine wpList_store_bex layAns rfl (.tmp 11) (.tmp 98) rfl w12.heap.size ⟨be,br,bb,bl,bz⟩ _ rfl rfl (Bex.new _ _ _) rfl ?_;intro w13 hx hw;have hb:=((Below.refl w12.heap.size w12).alloc (Nat.le_refl _) _).trans (hw.below _ (Nat.le_refl _));have HB6:=Lib.hid hx;replace HBx:=Lib.hid (HBx.out.trans (hb.mono HBx.out.size));replace HGx:=Lib.hid (HGx.out.next hb);replace HSx:=Lib.hid (HSx.out.below hb);replace HRx:=Lib.hid (HRx.out.next hb);replace HAx:=Lib.hid (HAx.out.next hb);have hz13:=hb.size;clear hx hw hb))
      simp only[Act.put]
      clear hfe hent
      have hg6:w.heap.size+ 1+1+ 1<w12.heap.size:= by omega
      refine wrq (fun l w'=>(w'.cell? ⟨w.heap.size,0,none⟩=some (.int .i64 q1)∧w'.cell? ⟨w.heap.size,1,none⟩=some (.int .i64 q2)∧w'.cell? ⟨w.heap.size,2,none⟩=some (.int .i64 q3)∧w'.cell? ⟨w.heap.size,3,none⟩=some (.slice l1 j1 i1)∧w'.cell? ⟨w.heap.size,4,none⟩=some (.slice l2 j2 i2)∧w'.cell? ⟨w.heap.size,5,none⟩=some (.slice l3 j3 i3)∧w'.cell? ⟨w.heap.size,6,none⟩=some (.slice l4 j4 i4)∧w'.cell? ⟨w12.heap.size,0,none⟩=some (.int .i64 be)∧w'.cell? ⟨w12.heap.size,1,none⟩=some (.int .i64 br)∧w'.cell? ⟨w12.heap.size,2,none⟩=some (.int .i64 bb)∧w'.cell? ⟨w12.heap.size,3,none⟩=some (.int .i64 bl)∧w'.cell? ⟨w12.heap.size,4,none⟩=some (.int .i64 bz))) ?_
      refine toS ⟨HGx.out.box.cell (j:=0) rfl,HGx.out.box.cell (j:=1) rfl,HGx.out.box.cell (j:=2) rfl,HGx.out.box.cell (j:=3) rfl,HGx.out.box.cell (j:=4) rfl,HGx.out.box.cell (j:=5) rfl,HGx.out.box.cell (j:=6) rfl,HB6.out.box.cell (j:=0) rfl,HB6.out.box.cell (j:=1) rfl,HB6.out.box.cell (j:=2) rfl,HB6.out.box.cell (j:=3) rfl,HB6.out.box.cell (j:=4) rfl⟩ ?_
      refine tkq 0 ?_
      refine tkq 2 ?_
      refine soq 1 (fun K hK=> ?_)
      go_simp
      go_at_call 22
      with_reducible refine(own_any rs ⟨q1,q2,q3,⟨l1,j1,i1⟩,⟨l2,j2,i2⟩,⟨l3,j3,i3⟩,⟨l4,j4,i4⟩⟩ 0 w13.drew (HSx.out.below ((Below.refl _ _).drew)) (by omega) (by omega) (by omega) (by omega)).mono ?_
      rintro e wa ⟨⟨s1,s2,s3,⟨f1,y1,z1⟩,⟨f2,y2,z2⟩,⟨f3,y3,z3⟩,⟨f4,y4,z4⟩⟩,rfl,hst,hb⟩
      replace hb:Below w13.heap.size w13 wa:=⟨hb.os,hb.tape,hb.output,hb.size,hb.block⟩
      have HN:=Lib.hid (StAt.mono (B':=w.heap.size) hst (by show w.heap.size≤w13.heap.size;omega))
      replace HBx:=Lib.hid (HBx.out.trans (hb.mono HBx.out.size))
      replace HGx:=Lib.hid (HGx.out.next hb)
      replace HB6:=Lib.hid (HB6.out.next hb)
      replace HRx:=Lib.hid (HRx.out.next hb)
      replace HAx:=Lib.hid (HAx.out.next hb)
      have hy0:=hb.size
      clear hst hb
      refine hK.out _ _ ⟨HGx.out.box.cell (j:=0) rfl,HGx.out.box.cell (j:=1) rfl,HGx.out.box.cell (j:=2) rfl,HGx.out.box.cell (j:=3) rfl,HGx.out.box.cell (j:=4) rfl,HGx.out.box.cell (j:=5) rfl,HGx.out.box.cell (j:=6) rfl,HB6.out.box.cell (j:=0) rfl,HB6.out.box.cell (j:=1) rfl,HB6.out.box.cell (j:=2) rfl,HB6.out.box.cell (j:=3) rfl,HB6.out.box.cell (j:=4) rfl⟩ ?_
      clear hK K
      refine soq 3 (fun K hK=> ?_)
      refine op_store_bex laySt (.tmp 4) (.tmp 100) rfl (w.heap.size+1+ 1) ⟨s1,s2,s3,⟨f1,y1,z1⟩,⟨f2,y2,z2⟩,⟨f3,y3,z3⟩,⟨f4,y4,z4⟩⟩ _ rfl rfl HRx.out rfl ?_
      intro wb hx hw
      replace HN:=Lib.hid (HN.out.wrote HRx.out (misfits_st _) hw)
      replace HBx:=Lib.hid (HBx.out.trans (hw.below _ (by omega)))
      replace HGx:=Lib.hid (HGx.out.wrote hw (by omega))
      replace HB6:=Lib.hid (HB6.out.wrote hw (by omega))
      replace HAx:=Lib.hid (HAx.out.wrote hw (by omega))
      replace HRx:=Lib.hid hx
      clear hx hw
      refine hK.out _ _ ⟨HGx.out.box.cell (j:=0) rfl,HGx.out.box.cell (j:=1) rfl,HGx.out.box.cell (j:=2) rfl,HGx.out.box.cell (j:=3) rfl,HGx.out.box.cell (j:=4) rfl,HGx.out.box.cell (j:=5) rfl,HGx.out.box.cell (j:=6) rfl,HB6.out.box.cell (j:=0) rfl,HB6.out.box.cell (j:=1) rfl,HB6.out.box.cell (j:=2) rfl,HB6.out.box.cell (j:=3) rfl,HB6.out.box.cell (j:=4) rfl⟩ ?_
      clear hK K
      refine soq 4 (fun K hK=> ?_)
      refine op_store_bex layAns (.tmp 5) (.tmp 101) rfl (w.heap.size+1+ 1+1) ⟨be,br,bb,bl,bz⟩ _ rfl rfl HAx.out rfl ?_
      intro wd hx hw
      replace HN:=Lib.hid (HN.out.wrote HAx.out (misfits_ans _) hw)
      replace HBx:=Lib.hid (HBx.out.trans (hw.below _ (by omega)))
      replace HGx:=Lib.hid (HGx.out.wrote hw (by omega))
      replace HB6:=Lib.hid (HB6.out.wrote hw (by omega))
      replace HRx:=Lib.hid (HRx.out.wrote hw (by omega))
      replace HAx:=Lib.hid hx
      have hya2:=(hw.below 0 (Nat.zero_le _)).size
      clear hx hw
      refine hK.out _ _ ⟨HGx.out.box.cell (j:=0) rfl,HGx.out.box.cell (j:=1) rfl,HGx.out.box.cell (j:=2) rfl,HGx.out.box.cell (j:=3) rfl,HGx.out.box.cell (j:=4) rfl,HGx.out.box.cell (j:=5) rfl,HGx.out.box.cell (j:=6) rfl,HB6.out.box.cell (j:=0) rfl,HB6.out.box.cell (j:=1) rfl,HB6.out.box.cell (j:=2) rfl,HB6.out.box.cell (j:=3) rfl,HB6.out.box.cell (j:=4) rfl⟩ ?_
      clear hK K
      refine sdq ?_
      go_wp2_with fail
      obtain⟨zz0,zz1,zz2,zz3,zz4,zz5,zz6⟩:=cellsSt0 HRx.out.box.range
      obtain⟨aa0,aa1,aa2,aa3,aa4⟩:=ans_cells HAx.out
      refine bodyPost_ret (v:= .tuple #[Raw.agg ⟨s1,s2,s3,⟨f1,y1,z1⟩,⟨f2,y2,z2⟩,⟨f3,y3,z3⟩,⟨f4,y4,z4⟩⟩,Ans.agg ⟨be,br,bb,bl,bz⟩]) (by simp[results,Tryz.results15,go_sem,zz0,zz1,zz2,zz3,zz4,zz5,zz6,aa0,aa1,aa2,aa3,aa4]) rfl ?_
      rw[HQ.out]
      exact⟨_,rfl,HN.out,HBx.out⟩
    ·have hbe:(en !=0)=true:= by simpa using hen
     have HQ:Hid (res=(cs,Ans.err 2)):=Lib.hid (by rw[HAP2.out,if_pos (by simpa using hen)])
     clear HAP2 hen
     go_wp2_with(first|((with_reducible refine at_load 27 (.tmp 2) ?_);refine wpList_load_as laySt rfl (.tmp 2) rfl w.heap.size 0 rfl ⟨x.term,x.stamp,v3,⟨b1,m1,d1⟩,⟨b2,m2,d2⟩,⟨b3,m3,d3⟩,⟨b4,m4,d4⟩⟩ (.agg #[.int .i64 x.term,.int .i64 x.stamp,.int .i64 v3,.slice b1 m1 d1,.slice b2 m2 d2,.slice b3 m3 d3,.slice b4 m4 d4]) rfl HGx.out.box.range ?_)|((with_reducible refine at_store 27 (.tmp 4) (.tmp 92) ?_);refine wpList_store_bex laySt rfl (.tmp 4) (.tmp 92) rfl (w.heap.size+1+ 1) ⟨x.term,x.stamp,v3,⟨b1,m1,d1⟩,⟨b2,m2,d2⟩,⟨b3,m3,d3⟩,⟨b4,m4,d4⟩⟩ _ rfl rfl HRx.out rfl ?_;intro wy hx hw;have HSy:=Lib.hid (HSx.out.wrote HRx.out (misfits_st _) hw);have HRy:=Lib.hid hx;have HAy:=Lib.hid (HAx.out.wrote hw (by omega));have HBy:=Lib.hid (HBx.out.trans (hw.below _ (by omega)));clear hx hw)|((with_reducible refine at_store 40 (.tmp 5) (.tmp 93) ?_);refine wpList_store_bex layAns rfl (.tmp 5) (.tmp 93) rfl (w.heap.size+1+ 1+1) (Ans.err 2) _ rfl rfl HAy.out rfl ?_;intro wz hx hw;have HSz:=Lib.hid (HSy.out.wrote HAy.out (misfits_ans _) hw);have HRz:=Lib.hid (HRy.out.wrote hw (by omega));have HAz:=Lib.hid hx;have HBz:=Lib.hid (HBy.out.trans (hw.below _ (by omega)));clear hx hw))
     obtain⟨z0,z1,z2,z3,z4,z5,z6⟩:=cellsSt0 HRz.out.box.range
     obtain⟨j0,j1,j2,j3,j4⟩:=ans_cells HAz.out
     refine bodyPost_ret (v:= .tuple #[Raw.agg ⟨x.term,x.stamp,v3,⟨b1,m1,d1⟩,⟨b2,m2,d2⟩,⟨b3,m3,d3⟩,⟨b4,m4,d4⟩⟩,Ans.agg (Ans.err 2)]) (by simp[results,Tryz.results15,Ans.err,go_sem,z0,z1,z2,z3,z4,z5,z6,j0,j1,j2,j3,j4]) rfl ?_
     rw[HQ.out]
     exact⟨_,rfl,HSz.out,HBz.out⟩
   ·have HK:=Lib.hid hk
    have hbk:(x.kind !=2)=true:= by simpa using hk
    have HAP2:=Lib.hid ((HAP.out).trans (if_pos hk))
    have ek:=HEx.out.box.cell (j:=1) rfl
    clear hk HAP
    go_wp2_with(first|((with_reducible refine at_load 27 (.tmp 2) ?_);refine wpList_load_as laySt rfl (.tmp 2) rfl w.heap.size 0 rfl ⟨x.term,x.stamp,v3,⟨b1,m1,d1⟩,⟨b2,m2,d2⟩,⟨b3,m3,d3⟩,⟨b4,m4,d4⟩⟩ (.agg #[.int .i64 x.term,.int .i64 x.stamp,.int .i64 v3,.slice b1 m1 d1,.slice b2 m2 d2,.slice b3 m3 d3,.slice b4 m4 d4]) rfl HGx.out.box.range ?_)|((with_reducible refine at_store 27 (.tmp 4) (.tmp 62) ?_);refine wpList_store_bex laySt rfl (.tmp 4) (.tmp 62) rfl (w.heap.size+1+ 1) ⟨x.term,x.stamp,v3,⟨b1,m1,d1⟩,⟨b2,m2,d2⟩,⟨b3,m3,d3⟩,⟨b4,m4,d4⟩⟩ _ rfl rfl HRx.out rfl ?_;intro wy hx hw;have HSy:=Lib.hid (HSx.out.wrote HRx.out (misfits_st _) hw);have HRy:=Lib.hid hx;have HAy:=Lib.hid (HAx.out.wrote hw (by omega));have HBy:=Lib.hid (HBx.out.trans (hw.below _ (by omega)));clear hx hw)|((with_reducible refine at_store 40 (.tmp 5) (.tmp 63) ?_);refine wpList_store_bex layAns rfl (.tmp 5) (.tmp 63) rfl (w.heap.size+1+ 1+1) (Ans.err 0) _ rfl rfl HAy.out rfl ?_;intro wz hx hw;have HSz:=Lib.hid (HSy.out.wrote HAy.out (misfits_ans _) hw);have HRz:=Lib.hid (HRy.out.wrote hw (by omega));have HAz:=Lib.hid hx;have HBz:=Lib.hid (HBy.out.trans (hw.below _ (by omega)));clear hx hw))
    obtain⟨z0,z1,z2,z3,z4,z5,z6⟩:=cellsSt0 HRz.out.box.range
    obtain⟨j0,j1,j2,j3,j4⟩:=ans_cells HAz.out
    refine bodyPost_ret (v:= .tuple #[Raw.agg ⟨x.term,x.stamp,v3,⟨b1,m1,d1⟩,⟨b2,m2,d2⟩,⟨b3,m3,d3⟩,⟨b4,m4,d4⟩⟩,Ans.agg (Ans.err 0)]) (by simp[results,Tryz.results15,Ans.err,go_sem,z0,z1,z2,z3,z4,z5,z6,j0,j1,j2,j3,j4]) rfl ?_
    rw[HAP2.out]
    exact⟨_,rfl,HSz.out,HBz.out⟩
end Go.Proofs.YtfdmhpohfjbpfaaGreat
