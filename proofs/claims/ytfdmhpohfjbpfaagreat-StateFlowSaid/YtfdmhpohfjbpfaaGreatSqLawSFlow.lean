import Derived.Test.YtfdmhpohfjbpfaaGreatSqStaFlowP
import Derived.Test.YtfdmhpohfjbpfaaGreatSqLawSCap
set_option linter.unusedVariables false
set_option linter.unusedSimpArgs false
namespace Go.Proofs.YtfdmhpohfjbpfaaGreat
open Go.ChangeShapes Go.WideShapes Go.ChangeAt Go.RowKit
set_option maxRecDepth 100000
structure FlowNum (b rate c ot os tk ng bf:Int):Prop where
 b0:0≤ b∧b≤ 1000000000
 r0:0≤ rate∧rate≤ 1000000
 c0:0≤ c∧c≤ 1000000000
 ot0:0≤ ot∧ot≤ 64000000
 os0:0≤ os∧os≤ 64000000
 p0:0≤ rate*tk∧ rate*tk≤ 4294967296000000
 n0:0≤ ng∧ng≤ 64000000
 f0:0≤ bf∧bf≤ 64000000000
 sum:1000* ng+c≤ b+rate* tk+bf
theorem lea_sizes {s:St} (h:stOk s=true):∀x∈ s.leas,0≤x.size∧ x.size≤1000000:= fun x hx=>by
 have:=lea_parts (stOk_parts h).2.1 hx
 omega
theorem ng_range {s:St} (h:stateOk s=true) (nx id:Int) (k:Nat):0≤ newG (s.leas.take k) nx id∧newG (s.leas.take k) nx id≤64000000:= by
 have hq:=(stateOk_parts h).2.2.2.1
 have h1:=newG_range (next:=nx) (id:=id) (fun x hx=>lea_sizes hq x (List.mem_of_mem_take hx:x∈ s.leas))
  (l:=s.leas.take k)
 have h2:=(stOk_parts hq).2.2.1.1
 have h3:(s.leas.take k).length≤s.leas.length:= by simp;omega
 omega
theorem flow_num {s:St} (h:stateOk s=true) (x:WEnt) (id:Int):FlowNum (bkF s.tens id).1 (bkF s.tens id).2.1 (bkF (applyS s x).1.tens id).1 (outL (applyS s x).1.leas id) (outL s.leas id) (ticksC s x) (newG (applyS s x).1.leas s.next id) (backF s (applyS s x).1 x id):=by
 have hc:=cap_num h x id
 have hq:=(stateOk_parts h).2.2.2.1
 have hq2:=(stateOk_parts (apply_ok h x)).2.2.2.1
 have hn:=ng_range (apply_ok h x) s.next id (applyS s x).1.leas.length
 rw[List.take_length]at hn
 have hs:=apply_flow h x id
 have e1:=bkF_eq (stOk_parts hq).1 id
 have e2:=bkF_eq (stOk_parts hq2).1 id
 have hb:=backF_nonneg s (applyS s x).1 x id
 have hbm:backF s (applyS s x).1 x id≤64000000000:= by
  have:=hc.ot0
  have:=hc.os0
  unfold backF
  split<;>omega
 refine⟨hc.b0,hc.r0,hc.c0,hc.ot0,hc.os0,hc.p0,hn,⟨hb,hbm⟩,?_⟩
 rw[e1,e2]
 exact hs
set_option maxHeartbeats 8000000 in
theorem sflow_bad (s:St) (r:Raw) (es:List RwE) (a:Option Addr) (n c:Nat) (id:Int) (w:World) (h:StAt w 0 r s) (hi:InI s.stamp) (hl1:s.tens.length≤ 1000000000000000) (hl2:s.leas.length≤ 1000000000000000) (hl3:s.sess.length≤ 1000000000000000) (hl4:s.dsks.length≤ 1000000000000000)
 (hn:es.length= n) (hln:n≤ 1000000000000000) (hes:∀y∈ es,RowB w y.2.1 y.1.data∧y.1.data.length≤ y.2.2∧y.1.data.length≤ 1000000000000000∧InI y.1.stamp) (hr:LRow layRw w a es) (hbad:stateOk s=false):
 Calls Tryz.prog 6 #[r.agg,.slice a n c,.int .i64 id] w fun e w'=>e= .returned (.bool true)∧Below w.heap.size w w':=by
 have HGR:=Lib.hid (fun w' (hb:Below w.heap.size w w')=>great19_any s r 0 w' (h.below hb) hl1 hl2 hl3 hl4)
 have HLG:=Lib.hid (fun w' (hb:Below w.heap.size w w')=>long_any es a n c w' hn (Row.below hr hb) (fun y hy=>(hes y hy).2.2.1) hln)
 have HCK:Hid (∀w',StAt w' 0 r s→(s.tens.length≤300∧ s.leas.length≤300∧ s.sess.length≤300∧ s.dsks.length≤300)→Calls Tryz.prog 14 #[r.agg] w' fun e w''=>e= .returned (.bool (stateOk s))∧Below w'.heap.size w' w''):=Lib.hid (fun w' hs hl=>refcheck_sta s r 0 w' hs (by omega) (by omega) (by omega) (by omega))
 have HSR:=Lib.hid h
 rw[hbad]at HCK
 clear hbad
 obtain⟨t1,t2,t3,⟨a1,n1,c1⟩,⟨a2,n2,c2⟩,⟨a3,n3,c3⟩,⟨a4,n4,c4⟩⟩:=r
 have HBx:Hid (Below w.heap.size w (w.alloc (.cells #[.int .i64 t1,.int .i64 t2,.int .i64 t3,.slice a1 n1 c1,.slice a2 n2 c2,.slice a3 n3 c3,.slice a4 n4 c4] 27))):=mid_alloc' (Below.refl _ _)
 have HGx:Hid (Bex (w.alloc (.cells #[.int .i64 t1,.int .i64 t2,.int .i64 t3,.slice a1 n1 c1,.slice a2 n2 c2,.slice a3 n3 c3,.slice a4 n4 c4] 27)) w.heap.size (Raw.cells ⟨t1,t2,t3,⟨a1,n1,c1⟩,⟨a2,n2,c2⟩,⟨a3,n3,c3⟩,⟨a4,n4,c4⟩⟩)):=Bex.new w (Raw.cells ⟨t1,t2,t3,⟨a1,n1,c1⟩,⟨a2,n2,c2⟩,⟨a3,n3,c3⟩,⟨a4,n4,c4⟩⟩) _
 have HSx:=Lib.hid (HSR.out.below HBx.out)
 clear h hi hl1 hl2 hl3 hl4 hes hr
 go_enter Tryz.func6,Tryz.ntmps6
 go_upto_region 1 with fail
 obtain⟨w1,hw1⟩:∃y,y=w.alloc (.cells #[.int .i64 t1,.int .i64 t2,.int .i64 t3,.slice a1 n1 c1,.slice a2 n2 c2,.slice a3 n3 c3,.slice a4 n4 c4] 27):=⟨_,rfl⟩
 rw[←hw1]at HBx HGx HSx ⊢
 clear hw1
 go_wp2_with(first|((with_reducible refine at_load 27 (.tmp 3) ?_);refine wpList_strip (by rfl) ?_;refine wpList_load_as laySt rfl (.tmp 3) rfl w.heap.size 0 rfl ⟨t1,t2,t3,⟨a1,n1,c1⟩,⟨a2,n2,c2⟩,⟨a3,n3,c3⟩,⟨a4,n4,c4⟩⟩ (Raw.agg ⟨t1,t2,t3,⟨a1,n1,c1⟩,⟨a2,n2,c2⟩,⟨a3,n3,c3⟩,⟨a4,n4,c4⟩⟩) rfl HGx.out.box.range ?_)|((with_reducible refine at_load 27 (.tmp 3) ?_);refine wpList_load_as laySt rfl (.tmp 3) rfl w.heap.size 0 rfl ⟨t1,t2,t3,⟨a1,n1,c1⟩,⟨a2,n2,c2⟩,⟨a3,n3,c3⟩,⟨a4,n4,c4⟩⟩ (Raw.agg ⟨t1,t2,t3,⟨a1,n1,c1⟩,⟨a2,n2,c2⟩,⟨a3,n3,c3⟩,⟨a4,n4,c4⟩⟩) rfl HGx.out.box.range ?_)|(go_at_call 7;((with_reducible refine(HGR.out _ HBx.out).mono ?_);rintro e w2 ⟨bg,rfl,hb,hgf⟩;replace HBx:=Lib.hid (HBx.out.trans (hb.mono HBx.out.size));replace HGx:=Lib.hid (HGx.out.next hb);replace HSx:=Lib.hid (HSx.out.below hb);have HGF:=Lib.hid hgf;clear hb hgf;cases bg))|(go_at_call 8;((with_reducible refine(HLG.out _ HBx.out).mono ?_);rintro e w3 ⟨bl,rfl,rfl,hlf⟩;have HLF:=Lib.hid hlf;clear hlf;cases bl))|(go_at_call 14;((with_reducible refine(HCK.out w3 HSx.out (by have:=HGF.out (by simp);omega)).mono ?_);rintro e w4 ⟨rfl,hb⟩;replace HBx:=Lib.hid (HBx.out.trans (hb.mono HBx.out.size));replace HGx:=Lib.hid (HGx.out.next hb);replace HSx:=Lib.hid (HSx.out.below hb);clear hb))|(go_at_call 9;((with_reducible refine(wakes19 _).mono ?_);rintro e wk ⟨rfl,hb⟩;replace HBx:=Lib.hid (HBx.out.trans (hb.mono HBx.out.size));clear hb)))
 all_goals
  go_returns
  exact⟨rfl,HBx.out⟩
set_option maxHeartbeats 8000000 in
theorem sflow_good (s:St) (r:Raw) (es:List RwE) (a:Option Addr) (n c:Nat) (id:Int) (w:World) (h:StAt w 0 r s) (hi:InI s.stamp) (hl1:s.tens.length≤ 1000000000000000) (hl2:s.leas.length≤ 1000000000000000) (hl3:s.sess.length≤ 1000000000000000) (hl4:s.dsks.length≤ 1000000000000000)
 (hn:es.length= n) (hln:n≤ 1000000000000000) (hes:∀y∈ es,RowB w y.2.1 y.1.data∧y.1.data.length≤ y.2.2∧y.1.data.length≤ 1000000000000000∧InI y.1.stamp) (hr:LRow layRw w a es) (hok:stateOk s=true):
 Calls Tryz.prog 6 #[r.agg,.slice a n c,.int .i64 id] w fun e w'=>e= .returned (.bool true)∧Below w.heap.size w w':=by
 have HGR:=Lib.hid (fun w' (hb:Below w.heap.size w w')=>great19_any s r 0 w' (h.below hb) hl1 hl2 hl3 hl4)
 have HLG:=Lib.hid (fun w' (hb:Below w.heap.size w w')=>long_any es a n c w' hn (Row.below hr hb) (fun y hy=>(hes y hy).2.2.1) hln)
 have HCK:Hid (∀w',StAt w' 0 r s→(s.tens.length≤300∧ s.leas.length≤300∧ s.sess.length≤300∧ s.dsks.length≤300)→Calls Tryz.prog 14 #[r.agg] w' fun e w''=>e= .returned (.bool (stateOk s))∧Below w'.heap.size w' w''):=Lib.hid (fun w' hs hl=>refcheck_sta s r 0 w' hs (by omega) (by omega) (by omega) (by omega))
 have HSR:=Lib.hid h
 rw[hok]at HCK
 have HRW:=Lib.hid hr
 have HLE:=Lib.hid hn
 have HCUR:Hid (∀k,stateOk (allS s (ents (es.take k))).1=true∧ InI (allS s (ents (es.take k))).1.stamp):=Lib.hid (fun k=>⟨allS_ok _ hok,allS_stamp _ hi (by
  intro x hx
  obtain⟨y,hy,rfl⟩:=List.mem_map.1 hx
  exact(hes y (List.mem_of_mem_take hy)).2.2.2)⟩)
 have HSTP:Hid (∀k (hk:k< es.length),(allS s (ents (es.take (k+1)))).1=(applyS (allS s (ents (es.take k))).1 es[k].1).1):=Lib.hid (fun k hk=>by
  rw[List.take_succ_eq_append_getElem hk];unfold ents;rw[List.map_append];exact congrArg Prod.fst (allS_snoc _ _ _))
 have HES:=Lib.hid (fun(h80:sumD es≤8000) w' (hb:Below w.heap.size w w')=>ents_in hes h80 hb)
 have HB0:Hid (∀w',StAt w' 0 r s→s.tens.length≤ 300→Calls Tryz.prog 16 #[r.agg,.int .i64 id] w' fun e w''=>e= .returned (.tuple #[.int .i64 (bkF s.tens id).1,.int .i64 (bkF s.tens id).2.1,.int .i64 (bkF s.tens id).2.2])∧Below w'.heap.size w' w''):=Lib.hid (fun w' hs hl=>bucket_any s r 0 id w' hs (by omega))
 have HBS:Hid (0≤(bkF s.tens id).1∧(bkF s.tens id).1≤1000000000):=Lib.hid (cap_num hok ⟨0,0,0,0,[]⟩ id).b0
 clear hok
 obtain⟨t1,t2,t3,⟨a1,n1,c1⟩,⟨a2,n2,c2⟩,⟨a3,n3,c3⟩,⟨a4,n4,c4⟩⟩:=r
 have HBx:Hid (Below w.heap.size w (w.alloc (.cells #[.int .i64 t1,.int .i64 t2,.int .i64 t3,.slice a1 n1 c1,.slice a2 n2 c2,.slice a3 n3 c3,.slice a4 n4 c4] 27))):=mid_alloc' (Below.refl _ _)
 have HGx:Hid (Bex (w.alloc (.cells #[.int .i64 t1,.int .i64 t2,.int .i64 t3,.slice a1 n1 c1,.slice a2 n2 c2,.slice a3 n3 c3,.slice a4 n4 c4] 27)) w.heap.size (Raw.cells ⟨t1,t2,t3,⟨a1,n1,c1⟩,⟨a2,n2,c2⟩,⟨a3,n3,c3⟩,⟨a4,n4,c4⟩⟩)):=Bex.new w (Raw.cells ⟨t1,t2,t3,⟨a1,n1,c1⟩,⟨a2,n2,c2⟩,⟨a3,n3,c3⟩,⟨a4,n4,c4⟩⟩) _
 have HSx:=Lib.hid (HSR.out.below HBx.out)
 clear h hi hl1 hl2 hl3 hl4 hes hr
 go_enter Tryz.func6,Tryz.ntmps6
 go_upto_region 1 with fail
 obtain⟨w1,hw1⟩:∃y,y=w.alloc (.cells #[.int .i64 t1,.int .i64 t2,.int .i64 t3,.slice a1 n1 c1,.slice a2 n2 c2,.slice a3 n3 c3,.slice a4 n4 c4] 27):=⟨_,rfl⟩
 rw[←hw1]at HBx HGx HSx ⊢
 clear hw1
 go_upto_if 34 with(first|((with_reducible refine at_load 27 (.tmp 3) ?_);refine wpList_strip (by rfl) ?_;refine wpList_load_as laySt rfl (.tmp 3) rfl w.heap.size 0 rfl ⟨t1,t2,t3,⟨a1,n1,c1⟩,⟨a2,n2,c2⟩,⟨a3,n3,c3⟩,⟨a4,n4,c4⟩⟩ (Raw.agg ⟨t1,t2,t3,⟨a1,n1,c1⟩,⟨a2,n2,c2⟩,⟨a3,n3,c3⟩,⟨a4,n4,c4⟩⟩) rfl HGx.out.box.range ?_)|((with_reducible refine at_load 27 (.tmp 3) ?_);refine wpList_load_as laySt rfl (.tmp 3) rfl w.heap.size 0 rfl ⟨t1,t2,t3,⟨a1,n1,c1⟩,⟨a2,n2,c2⟩,⟨a3,n3,c3⟩,⟨a4,n4,c4⟩⟩ (Raw.agg ⟨t1,t2,t3,⟨a1,n1,c1⟩,⟨a2,n2,c2⟩,⟨a3,n3,c3⟩,⟨a4,n4,c4⟩⟩) rfl HGx.out.box.range ?_)|(go_at_call 7;((with_reducible refine(HGR.out _ HBx.out).mono ?_);rintro e w2 ⟨bg,rfl,hb,hgf⟩;replace HBx:=Lib.hid (HBx.out.trans (hb.mono HBx.out.size));replace HGx:=Lib.hid (HGx.out.next hb);replace HSx:=Lib.hid (HSx.out.below hb);have HGF:=Lib.hid hgf;clear hb hgf;cases bg))|(go_at_call 8;((with_reducible refine(HLG.out _ HBx.out).mono ?_);rintro e w3 ⟨bl,rfl,rfl,hlf⟩;have HLF:=Lib.hid hlf;clear hlf;cases bl))|(go_at_call 14;((with_reducible refine(HCK.out w3 HSx.out (by have:=HGF.out (by simp);omega)).mono ?_);rintro e w4 ⟨rfl,hb⟩;replace HBx:=Lib.hid (HBx.out.trans (hb.mono HBx.out.size));replace HGx:=Lib.hid (HGx.out.next hb);replace HSx:=Lib.hid (HSx.out.below hb);clear hb)))
 rotate_left
 ·go_wp2_with(go_at_call 9;((with_reducible refine(wakes19 _).mono ?_);rintro e wk ⟨rfl,hb⟩;replace HBx:=Lib.hid (HBx.out.trans (hb.mono HBx.out.size));clear hb))
  go_returns
  exact⟨rfl,HBx.out⟩
 ·go_wp2_with(go_at_call 9;((with_reducible refine(wakes19 _).mono ?_);rintro e wk ⟨rfl,hb⟩;replace HBx:=Lib.hid (HBx.out.trans (hb.mono HBx.out.size));clear hb))
  go_returns
  exact⟨rfl,HBx.out⟩
 ·obtain⟨h40,h80⟩:=HLF.out (by simp)
  have hgf:=HGF.out (by simp)
  replace HES:=Lib.hid (HES.out h80)
  clear HLF HGF HGR HLG HCK HSR h80
  go_upto_region 4 with(first|((with_reducible refine at_load 27 (.tmp 3) ?_);refine wpList_load_as laySt rfl (.tmp 3) rfl w.heap.size 0 rfl ⟨t1,t2,t3,⟨a1,n1,c1⟩,⟨a2,n2,c2⟩,⟨a3,n3,c3⟩,⟨a4,n4,c4⟩⟩ (Raw.agg ⟨t1,t2,t3,⟨a1,n1,c1⟩,⟨a2,n2,c2⟩,⟨a3,n3,c3⟩,⟨a4,n4,c4⟩⟩) rfl HGx.out.box.range ?_)|(go_at_call 16;((with_reducible refine(HB0.out _ HSx.out (by omega)).mono ?_);rintro e w5 ⟨rfl,hb⟩;replace HBx:=Lib.hid (HBx.out.trans (hb.mono HBx.out.size));replace HGx:=Lib.hid (HGx.out.next hb);replace HSx:=Lib.hid (HSx.out.below hb);clear hb HB0)))
  (try simp only[Act.put])
  go_wp2
  go_loopw [7,10,45] (fun sh sg si wr=>∃k: Nat,∃q,∃(H G:Int),k≤es.length∧ sh= .int .i64 H∧sg= .int .i64 G∧si= .int .i64 k∧Hid (0≤G∧ G+(bkF (allS s (ents (es.take k))).1.tens id).1≤H∧ H≤1000000000+ 4400000000000000*k)∧Hid (Bex wr w.heap.size (Raw.cells q))∧Hid (StAt wr 0 q (allS s (ents (es.take k))).1)∧Hid (Below w.heap.size w wr)) (fun _ _ si _=>es.length- (intOf si).toNat)
  case atStart=>exact ⟨0,⟨t1,t2,t3,⟨a1,n1,c1⟩,⟨a2,n2,c2⟩,⟨a3,n3,c3⟩,⟨a4,n4,c4⟩⟩,(bkF s.tens id).1,0,by omega,rfl,rfl,rfl,Lib.hid (by have h0:=HBS.out;refine⟨by omega,?_,by omega⟩;show 0+(bkF s.tens id).1≤_;omega),HGx,HSx,HBx⟩
  case round=>
   clear HGx HSx HBx
   obtain⟨k,⟨q1,q2,q3,⟨qa1,qn1,qc1⟩,⟨qa2,qn2,qc2⟩,⟨qa3,qn3,qc3⟩,⟨qa4,qn4,qc4⟩⟩,hv,gr,hk,rfl,rfl,rfl,HIN,HGx,HSx,HBx⟩:=hrel
   have hln:=HLE.out
   by_cases hlt:k< es.length
   ·have hltn:k< n:=by omega
    obtain⟨b,o,rfl,hcs⟩:=LRow.range HRW.out hlt
    have HY:=Lib.hid (hcs wr HBx.out)
    have HYE:=Lib.hid (HES.out wr HBx.out es[k] (List.getElem_mem hlt))
    have HSTK:=Lib.hid (HSTP.out k hlt)
    obtain⟨hcok,hcst⟩:=HCUR.out k
    have hzr:w.heap.size< wr.heap.size:=HGx.out.lt
    clear hcs
    generalize(allS s (ents (es.take k))).1=st at HSx HSTK hcok hcst HIN
    generalize es[k]=y at HY HYE HSTK
    obtain⟨x,px⟩:=y
    have HAPP:Hid (∀w',Below wr.heap.size wr w'→StAt w' 0 ⟨q1,q2,q3,⟨qa1,qn1,qc1⟩,⟨qa2,qn2,qc2⟩,⟨qa3,qn3,qc3⟩,⟨qa4,qn4,qc4⟩⟩ st→Calls Tryz.prog 15 #[Raw.agg ⟨q1,q2,q3,⟨qa1,qn1,qc1⟩,⟨qa2,qn2,qc2⟩,⟨qa3,qn3,qc3⟩,⟨qa4,qn4,qc4⟩⟩,(.agg #[.int .i64 x.term,.int .i8 x.kind,.int .i64 x.stamp,B x.set,.slice px.1 x.data.length px.2])] w' (RetSAB w'.heap.size w' (applyS st x))):=Lib.hid (fun w' hb' hq=>apply_any st _ x px w' hq (ok_small hcok) hcst HYE.out.2.2.2 (HYE.out.1.below hb') HYE.out.2.1 HYE.out.2.2.1)
    have HRD:Hid (∀w',Below wr.heap.size wr w'→Calls Tryz.prog 18 #[.slice px.1 x.data.length px.2] w' (RetRdCmd w' (readC x))):=Lib.hid (fun w' hb'=>refreadcommand_any px.1 px.2 x.data w' (HYE.out.1.below hb') HYE.out.2.1 (by have:=HYE.out.2.2.1;simp only at this;omega))
    have HNUM:=Lib.hid (flow_num hcok x id)
    have HNR:=Lib.hid (fun j=>ng_range (apply_ok hcok x) st.next id j)
    have HSZ:=Lib.hid (lea_sizes (stateOk_parts (apply_ok hcok x)).2.2.2.1)
    have HL64:=Lib.hid (stOk_parts (stateOk_parts (apply_ok hcok x)).2.2.2.1).2.2.1.1
    have HBK:Hid (∀w',StAt w' 0 ⟨q1,q2,q3,⟨qa1,qn1,qc1⟩,⟨qa2,qn2,qc2⟩,⟨qa3,qn3,qc3⟩,⟨qa4,qn4,qc4⟩⟩ st→Calls Tryz.prog 16 #[Raw.agg ⟨q1,q2,q3,⟨qa1,qn1,qc1⟩,⟨qa2,qn2,qc2⟩,⟨qa3,qn3,qc3⟩,⟨qa4,qn4,qc4⟩⟩,.int .i64 id] w' fun e w''=>e= .returned (.tuple #[.int .i64 (bkF st.tens id).1,.int .i64 (bkF st.tens id).2.1,.int .i64 (bkF st.tens id).2.2])∧Below w'.heap.size w' w''):=Lib.hid (fun w' hs=>bucket_any st ⟨q1,q2,q3,⟨qa1,qn1,qc1⟩,⟨qa2,qn2,qc2⟩,⟨qa3,qn3,qc3⟩,⟨qa4,qn4,qc4⟩⟩ 0 id w' hs (by have:=(ok_small hcok).ten;omega))
    have HOS:Hid (∀w',StAt w' 0 ⟨q1,q2,q3,⟨qa1,qn1,qc1⟩,⟨qa2,qn2,qc2⟩,⟨qa3,qn3,qc3⟩,⟨qa4,qn4,qc4⟩⟩ st→Calls Tryz.prog 17 #[Raw.agg ⟨q1,q2,q3,⟨qa1,qn1,qc1⟩,⟨qa2,qn2,qc2⟩,⟨qa3,qn3,qc3⟩,⟨qa4,qn4,qc4⟩⟩,.int .i64 id] w' fun e w''=>e= .returned (.int .i64 (outL st.leas id))∧Below w'.heap.size w' w''):=Lib.hid (fun w' hs=>out19_any st ⟨q1,q2,q3,⟨qa1,qn1,qc1⟩,⟨qa2,qn2,qc2⟩,⟨qa3,qn3,qc3⟩,⟨qa4,qn4,qc4⟩⟩ 0 id w' hs (by have:=(ok_small hcok).lea;omega) (fits_ok hcok))
    have HOT:Hid (∀q w',StAt w' 0 q (applyS st x).1→Calls Tryz.prog 17 #[q.agg,.int .i64 id] w' fun e w''=>e= .returned (.int .i64 (outL (applyS st x).1.leas id))∧Below w'.heap.size w' w''):=Lib.hid (fun q w' hs=>out19_any _ q 0 id w' hs (by have:=(ok_small (apply_ok hcok x)).lea;omega) (fits_ok (apply_ok hcok x)))
    have HTC:Hid (ticksC st x=if 1≤x.term∧ x.term=st.term∧ st.stamp<x.stamp then min (x.stamp-st.stamp) 4294967296 else 0):=rfl
    have HBF:Hid (backF st (applyS st x).1 x id=if (readC x).2.2=0∧ (readC x).1.kind=5∧ (readC x).1.closed=true then 1000*max (outL st.leas id-outL (applyS st x).1.leas id) 0 else 0):=rfl
    have HS0:=Lib.hid (And.intro (stateOk_parts hcok).2.1 (And.intro hcst HYE.out.2.2.2))
    have hqt:=HSx.out.term
    have hqs:=HSx.out.stamp
    have hqn:=HSx.out.next
    simp only at hqt hqs hqn
    rw[←hqt,←hqs]at HTC
    rw[←hqs]at HS0
    rw[←hqn]at HNUM HNR
    clear hcok hcst hqt hqs hqn
    generalize ticksC st x=tk at HNUM HTC
    generalize backF st (applyS st x).1 x id=bf at HNUM HBF
    generalize readC x=rd at HRD HBF
    obtain⟨⟨kd,cl,nu,te,ra,bu,sh,ep,le,sz,sp,co,ls⟩,at',en⟩:=rd
    generalize(applyS st x)=ap at HSTK HAPP HNUM HOT HBF HNR HSZ HL64
    obtain⟨ts,⟨ae,ar,ab,al,az⟩⟩:=ap
    simp only at HSTK HNUM HOT HBF HNR HSZ HL64
    generalize hbs:bkF st.tens id=bs at HNUM HBK HIN
    obtain⟨vb,vr,vu⟩:=bs
    generalize outL st.leas id=os at HNUM HOS HBF
    generalize outL ts.leas id=ot at HNUM HOT HBF
    clear hbs
    simp only at HNUM HBK HIN
    go_upto_region 9 with(first|((with_reducible refine at_load 45 (.tmp 47) ?_);refine wpList_load_as layRw rfl (.tmp 47) rfl b (o+k* 5) rfl (x,px) (.agg #[.int .i64 x.term,.int .i8 x.kind,.int .i64 x.stamp,B x.set,.slice px.1 x.data.length px.2]) rfl (by exact HY.out) ?_)|((with_reducible refine at_store 45 (.tmp 12) (.tmp 48) ?_);refine wpList_store_bex layRw rfl (.tmp 12) (.tmp 48) rfl wr.heap.size (x,px) _ rfl rfl (Bex.new _ _ _) rfl ?_;intro w2 hx hw;have hb:=((Below.refl wr.heap.size wr).alloc (Nat.le_refl _) _).trans (hw.below _ (Nat.le_refl _));have HWR:=Lib.hid hb;have HE:=Lib.hid hx;replace HBx:=Lib.hid (HBx.out.trans (hb.mono HBx.out.size));replace HGx:=Lib.hid (HGx.out.next hb);replace HSx:=Lib.hid (HSx.out.below hb);have hz2:=HE.out.lt;clear hx hw hb)|((with_reducible refine at_load 27 (.tmp 3) ?_);refine wpList_load_as laySt rfl (.tmp 3) rfl w.heap.size 0 rfl ⟨q1,q2,q3,⟨qa1,qn1,qc1⟩,⟨qa2,qn2,qc2⟩,⟨qa3,qn3,qc3⟩,⟨qa4,qn4,qc4⟩⟩ (Raw.agg ⟨q1,q2,q3,⟨qa1,qn1,qc1⟩,⟨qa2,qn2,qc2⟩,⟨qa3,qn3,qc3⟩,⟨qa4,qn4,qc4⟩⟩) rfl HGx.out.box.range ?_)|(go_at_call 16;((with_reducible refine(HBK.out w2 HSx.out).mono ?_);rintro e w3 ⟨rfl,hb⟩;replace HWR:=Lib.hid (HWR.out.trans (hb.mono HWR.out.size));replace HBx:=Lib.hid (HBx.out.trans (hb.mono HBx.out.size));replace HGx:=Lib.hid (HGx.out.next hb);replace HE:=Lib.hid (HE.out.next hb);replace HSx:=Lib.hid (HSx.out.below hb);clear hb)))
    (try simp only[Act.put])
    have e0:=HE.out.box.cell (j:=0) rfl
    have e2:=HE.out.box.cell (j:=2) rfl
    have g0:=HGx.out.box.cell (j:=0) rfl
    have g1:=HGx.out.box.cell (j:=1) rfl
    (try simp only at e0 e2 g0 g1)
    obtain⟨gd,hgd⟩:∃gd: Bool,gd=decide (1≤x.term∧ x.term=q1∧ q2<x.stamp):=⟨_,rfl⟩
    have HGD:=Lib.hid hgd
    clear hgd
    go_cut [72]from 56 to 71 (fun v wx=> .bool gd=v∧ w3=wx)
    case first=>
     by_cases d1:1≤ x.term
     ·have b1:decide (1≤x.term)=true:= decide_eq_true d1
      by_cases d2:x.term= q1
      ·have b2:(x.term==q1)=true:= by simpa using d2
       by_cases d3:q2< x.stamp
       ·have b3:decide (q2<x.stamp)=true:= decide_eq_true d3
        have hg:gd= true:=by rw[HGD.out];exact decide_eq_true ⟨d1,d2,d3⟩
        subst hg
        clear d1 d2 d3 HGD
        go_wp2_with fail
        go_meet
        exact⟨rfl,rfl⟩
       ·have b3:decide (q2<x.stamp)=false:= decide_eq_false d3
        have hg:gd= false:=by rw[HGD.out];exact decide_eq_false (fun h=>d3 h.2.2)
        subst hg
        clear d1 d2 d3 HGD
        go_wp2_with fail
        go_meet
        exact⟨rfl,rfl⟩
      ·have b2:(x.term==q1)=false:= by simpa using d2
       have hg:gd= false:=by rw[HGD.out];exact decide_eq_false (fun h=>d2 h.2.1)
       subst hg
       clear d1 d2 HGD
       go_wp2_with fail
       go_meet
       exact⟨rfl,rfl⟩
     ·have b1:decide (1≤x.term)=false:= decide_eq_false d1
      have hg:gd= false:=by rw[HGD.out];exact decide_eq_false (fun h=>d1 h.1)
      subst hg
      clear d1 HGD
      go_wp2_with fail
      go_meet
      exact⟨rfl,rfl⟩
    case rest=>
     obtain⟨rfl,rfl⟩:=hcut
     go_upto_if 72 with fail
     go_cut [7]from 72 to 82 (fun v wx=> .int .i64 (hv+vr* tk)=v∧ w3=wx)
     case first=>
      have hg:=HGD.out
      cases gd with
      |true=>
       have hd:=of_decide_eq_true hg.symm
       have HTK:Hid (tk=min (x.stamp-q2) 4294967296):=Lib.hid (by rw[HTC.out,if_pos hd])
       have HD3:=Lib.hid hd.2.2
       clear hg hd HGD HTC
       go_wp2_with fail
       all_goals
        go_meet
        refine⟨?_,rfl⟩
        have h1:=HTK.out
        have h2:=HS0.out
        have h3:=HD3.out
        have h4:wrap64 (x.stamp-q2)=x.stamp- q2:=by unfold wrap64;unfold InI at h2;omega
        have hnm:=HNUM.out
        have hin:=HIN.out
        have hp0:=hnm.p0
        have hb0:=hnm.b0
        congr 1
        first
         |(rw[show tk=4294967296 by omega]at hp0 ⊢;unfold wrap64;omega)
         |(rw[show tk=x.stamp- q2 by omega]at hp0 ⊢;rw[h4];generalize vr*(x.stamp-q2)=p at hp0 ⊢;unfold wrap64;omega)
      |false=>
       have hd:=of_decide_eq_false hg.symm
       have HTK:Hid (tk=0):=Lib.hid (by rw[HTC.out,if_neg hd])
       clear hg hd HGD HTC
       go_wp2_with fail
       go_meet
       exact⟨by rw[HTK.out,Int.mul_zero,Int.add_zero],rfl⟩
     case rest=>
      obtain⟨rfl,rfl⟩:=hcut
      clear e0 e2 g0 g1 HGD HTC HS0
      have hz3:wr.heap.size< w3.heap.size:=HE.out.lt
      have g2':=HGx.out.box.cell (j:=2) rfl
      go_upto_region 14 with(first|((with_reducible refine at_load 27 (.tmp 3) ?_);refine wpList_load_as laySt rfl (.tmp 3) rfl w.heap.size 0 rfl ⟨q1,q2,q3,⟨qa1,qn1,qc1⟩,⟨qa2,qn2,qc2⟩,⟨qa3,qn3,qc3⟩,⟨qa4,qn4,qc4⟩⟩ (Raw.agg ⟨q1,q2,q3,⟨qa1,qn1,qc1⟩,⟨qa2,qn2,qc2⟩,⟨qa3,qn3,qc3⟩,⟨qa4,qn4,qc4⟩⟩) rfl HGx.out.box.range ?_)|(go_at_call 17;((with_reducible refine(HOS.out w3 HSx.out).mono ?_);rintro e w4 ⟨rfl,hb⟩;replace HWR:=Lib.hid (HWR.out.trans (hb.mono HWR.out.size));replace HBx:=Lib.hid (HBx.out.trans (hb.mono HBx.out.size));replace HGx:=Lib.hid (HGx.out.next hb);replace HE:=Lib.hid (HE.out.next hb);replace HSx:=Lib.hid (HSx.out.below hb);have hz4:=hb.size;replace g2':=HGx.out.box.cell (j:=2) rfl;clear hb HOS))|((with_reducible refine at_load 45 (.tmp 12) ?_);refine wpList_load_as layRw rfl (.tmp 12) rfl wr.heap.size 0 rfl (x,px) (.agg #[.int .i64 x.term,.int .i8 x.kind,.int .i64 x.stamp,B x.set,.slice px.1 x.data.length px.2]) rfl HE.out.box.range ?_)|(go_at_call 15;((with_reducible refine(HAPP.out w4 HWR.out HSx.out).mono ?_);rintro e w5 ⟨⟨y1,y2,y3,⟨ya1,yn1,yc1⟩,⟨ya2,yn2,yc2⟩,⟨ya3,yn3,yc3⟩,⟨ya4,yn4,yc4⟩⟩,rfl,hst,hb⟩;have H1:=Lib.hid (hst.mono (Nat.zero_le _));replace HWR:=Lib.hid (HWR.out.trans (hb.mono HWR.out.size));replace HBx:=Lib.hid (HBx.out.trans (hb.mono HBx.out.size));replace HGx:=Lib.hid (HGx.out.next hb);replace HE:=Lib.hid (HE.out.next hb);replace HSx:=Lib.hid (HSx.out.below hb);have hz5:=hb.size;clear hst hb HAPP g2'))|((with_reducible refine at_store 27 (.tmp 18) (.tmp 92) ?_);refine wpList_store_bex laySt rfl (.tmp 18) (.tmp 92) rfl w5.heap.size ⟨y1,y2,y3,⟨ya1,yn1,yc1⟩,⟨ya2,yn2,yc2⟩,⟨ya3,yn3,yc3⟩,⟨ya4,yn4,yc4⟩⟩ _ rfl rfl (by exact Bex.of_alloc (mid_alloc' (Below.refl _ _))) rfl ?_;intro w6 hx hw;have hb:=(show Below w5.heap.size w5 _ from mid_alloc' (mid_alloc' (Below.refl _ _))).trans (hw.below _ (Nat.le_refl _));have HT:=Lib.hid hx;have h9:=ans_new (w5.alloc (.cells #[.int .i64 0,.int .i64 0,.int .i64 0,.slice none 0 0,.slice none 0 0,.slice none 0 0,.slice none 0 0] 27));rw[World.size_alloc]at h9;have HU:=Lib.hid (h9.wrote hw (by omega));replace HWR:=Lib.hid (HWR.out.trans (hb.mono HWR.out.size));replace HBx:=Lib.hid (HBx.out.trans (hb.mono HBx.out.size));replace HGx:=Lib.hid (HGx.out.next hb);replace HE:=Lib.hid (HE.out.next hb);replace HSx:=Lib.hid (HSx.out.below hb);replace H1:=Lib.hid (H1.out.below hb);clear hx hw hb h9)|((with_reducible refine at_store 40 (.tmp 19) (.tmp 93) ?_);refine wpList_store_bex layAns rfl (.tmp 19) (.tmp 93) rfl (w5.heap.size+1) ⟨ae,ar,ab,al,az⟩ _ rfl rfl HU.out rfl ?_;intro w7 hx hw;replace HBx:=Lib.hid (HBx.out.trans (hw.below _ (by omega)));replace HWR:=Lib.hid (HWR.out.trans (hw.below _ (by omega)));replace HGx:=Lib.hid (HGx.out.wrote hw (by omega));replace HE:=Lib.hid (HE.out.wrote hw (by omega));replace HT:=Lib.hid (HT.out.wrote hw (by omega));replace HSx:=Lib.hid (HSx.out.wrote HU.out (misfits_ans _) hw);replace H1:=Lib.hid (H1.out.wrote HU.out (misfits_ans _) hw);clear hx hw HU))
      (try simp only[Act.put])
      have HLR:=Lib.hid H1.out.lea.row
      have hle:ts.leas.length= yn2:=H1.out.lea.len
      subst hle
      have t4:=HT.out.box.cell (j:=4) rfl
      go_wp2
      go_loopw [10,97] (fun sg sj wr=>∃j: Nat,j≤ts.leas.length∧ sj= .int .i64 j∧sg= .int .i64 (gr+1000* newG (ts.leas.take j) q3 id)∧w7= wr) (fun _ sj _=>ts.leas.length- (intOf sj).toNat)
      case atStart=>exact ⟨0,by omega,rfl,by simp[newG],(by first|rfl| trivial)⟩
      case round=>
       obtain⟨j,hj,rfl,rfl,rfl⟩:=hrel
       have hl64:=HL64.out
       have hin:=HIN.out
       have hvb:=HNUM.out.b0
       by_cases hjl:j< ts.leas.length
       ·obtain⟨b2,o2,rfl,hc2⟩:=LRow.range HLR.out hjl
        have HRG:=Lib.hid (hc2 w7 (Below.refl _ _))
        have HNT:=Lib.hid (newG_take hjl q3 id)
        have hsz:=HSZ.out ts.leas[j] (List.getElem_mem hjl)
        have hnj:=HNR.out j
        clear hc2
        generalize ts.leas[j]=lx at HRG HNT hsz
        obtain⟨li,lt,lsh,lep,lnu,lsz,lsp⟩:=lx
        have y0:w7.cell? ⟨b2,o2+j* 7,none⟩=some (.int .i64 li):=HRG.out 0 _ rfl
        have y1:w7.cell? ⟨b2,o2+j* 7+1,none⟩=some (.int .i64 lt):=HRG.out 1 _ rfl
        have y5:w7.cell? ⟨b2,o2+j* 7+5,none⟩=some (.int .i64 lsz):=HRG.out 5 _ rfl
        simp only at HNT hsz
        generalize hN:newG (ts.leas.take j) q3 id=N at HNT hnj ⊢
        clear hN
        have w1':wrap64 (1000*lsz)=1000* lsz:=by unfold wrap64;omega
        have w2':wrap64 (gr+1000* N+1000* lsz)=gr+ 1000*N+ 1000*lsz:= by unfold wrap64;omega
        have w3':IntKind.i64.wrap (1000*lsz)=1000* lsz:=IntWalk.i64_in _ (by omega)
        have w4':IntKind.i64.wrap (gr+1000* N+1000* lsz)=gr+ 1000*N+ 1000*lsz:= IntWalk.i64_in _ (by omega)
        clear hsz hnj hin hvb
        by_cases c1:q3≤ li
        ·have b1:decide (q3≤li)=true:= decide_eq_true c1
         by_cases c2:lt= id
         ·have b2':(lt==id)=true:= by simpa using c2
          have HNX:=Lib.hid ((HNT.out).trans (by rw[if_pos ⟨c1,c2⟩]))
          clear c1 c2
          go_wp2
          exact⟨⟨j+1,by omega,by go_num,by rw[HNX.out];congr 1;omega,(by first|rfl| trivial)⟩,by simp[intOf];omega⟩
         ·have b2':(lt==id)=false:= by simpa using c2
          have HNX:=Lib.hid ((HNT.out).trans (by rw[if_neg (fun q=>c2 q.2)]))
          clear c1 c2
          go_wp2
          exact⟨⟨j+1,by omega,by go_num,by rw[HNX.out];congr 1;omega,(by first|rfl| trivial)⟩,by simp[intOf];omega⟩
        ·have b1:decide (q3≤li)=false:= decide_eq_false c1
         have HNX:=Lib.hid ((HNT.out).trans (by rw[if_neg (fun q=>c1 q.1)]))
         clear c1
         go_wp2
         exact⟨⟨j+1,by omega,by go_num,by rw[HNX.out];congr 1;omega,(by first|rfl| trivial)⟩,by simp[intOf];omega⟩
       ·obtain rfl:j= ts.leas.length:=by omega
        rw[List.take_length]
        generalize newG ts.leas q3 id=ng at HNUM ⊢
        have e4:=HE.out.box.cell (j:=4) rfl
        clear hin hvb t4 HNR HSZ HLR
        go_upto_region 21 with(first|(go_at_call 18;((with_reducible refine(HRD.out w7 HWR.out).mono ?_);rintro e w8 ⟨⟨p0,p1⟩,rfl,hm,hb⟩;replace HBx:=Lib.hid (HBx.out.trans (hb.mono HBx.out.size));replace HGx:=Lib.hid (HGx.out.next hb);replace HT:=Lib.hid (HT.out.next hb);replace H1:=Lib.hid (H1.out.below hb);clear hm hb HRD e4 HE HWR HSx))|((with_reducible refine at_store 54 (.tmp 21) (.tmp 132) ?_);refine wpList_store_bex layCmd rfl (.tmp 21) (.tmp 132) rfl w8.heap.size (⟨kd,cl,nu,te,ra,bu,sh,ep,le,sz,sp,co,ls⟩,(p0,p1)) _ rfl rfl (Bex.new _ _ _) rfl ?_;intro w9 hx hw;have hb:=((Below.refl w8.heap.size w8).alloc (Nat.le_refl _) _).trans (hw.below _ (Nat.le_refl _));have HC9:=Lib.hid hx;replace HBx:=Lib.hid (HBx.out.trans (hb.mono HBx.out.size));replace HGx:=Lib.hid (HGx.out.next hb);replace HT:=Lib.hid (HT.out.next hb);replace H1:=Lib.hid (H1.out.below hb);clear hx hw hb))
        (try simp only[Act.put])
        have k0':=HC9.out.box.cell (j:=0) rfl
        have k11':=HC9.out.box.cell (j:=11) rfl
        (try simp only at k0' k11')
        obtain⟨gb,hgb⟩:∃gb: Bool,gb=decide (en=0∧ kd=5∧ co=true):=⟨_,rfl⟩
        have HGB:=Lib.hid hgb
        clear hgb
        go_cut [145]from 135 to 144 (fun v wx=> .bool gb=v∧ w9=wx)
        case first=>
         by_cases d1:en= 0
         ·have b1:(en==0)=true:= by simpa using d1
          by_cases d2:kd= 5
          ·have b2':(kd==5)=true:= by simpa using d2
           cases co with
           |true=>
            have hg:gb= true:=by rw[HGB.out];exact decide_eq_true ⟨d1,d2,rfl⟩
            subst hg
            clear d1 d2 HGB
            go_wp2_with fail
            go_meet
            exact⟨rfl,rfl⟩
           |false=>
            have hg:gb= false:=by rw[HGB.out];exact decide_eq_false (fun h=>by cases h.2.2)
            subst hg
            clear d1 d2 HGB
            go_wp2_with fail
            go_meet
            exact⟨rfl,rfl⟩
          ·have b2':(kd==5)=false:= by simpa using d2
           have hg:gb= false:=by rw[HGB.out];exact decide_eq_false (fun h=>d2 h.2.1)
           subst hg
           clear d1 d2 HGB
           go_wp2_with fail
           go_meet
           exact⟨rfl,rfl⟩
         ·have b1:(en==0)=false:= by simpa using d1
          have hg:gb= false:=by rw[HGB.out];exact decide_eq_false (fun h=>d1 h.1)
          subst hg
          clear d1 HGB
          go_wp2_with fail
          go_meet
          exact⟨rfl,rfl⟩
        case rest=>
         obtain⟨rfl,rfl⟩:=hcut
         go_upto_if 145 with fail
         go_cut [7]from 145 to 154 (fun v wx=> .int .i64 (hv+vr* tk+bf)=v∧ Hid (Bex wx w.heap.size (Raw.cells ⟨q1,q2,q3,⟨qa1,qn1,qc1⟩,⟨qa2,qn2,qc2⟩,⟨qa3,qn3,qc3⟩,⟨qa4,qn4,qc4⟩⟩))∧Hid (Bex wx w5.heap.size (Raw.cells ⟨y1,y2,y3,⟨ya1,yn1,yc1⟩,⟨ya2,ts.leas.length,yc2⟩,⟨ya3,yn3,yc3⟩,⟨ya4,yn4,yc4⟩⟩))∧Hid (StAt wx 0 ⟨y1,y2,y3,⟨ya1,yn1,yc1⟩,⟨ya2,ts.leas.length,yc2⟩,⟨ya3,yn3,yc3⟩,⟨ya4,yn4,yc4⟩⟩ ts)∧Hid (Below w.heap.size w wx))
         case first=>
          have hg:=HGB.out
          cases gb with
          |true=>
           have hd:=of_decide_eq_true hg.symm
           have HBF2:Hid (bf=1000* max (os-ot) 0):=Lib.hid (by rw[HBF.out,if_pos hd])
           clear hg hd HGB HBF k0' k11'
           go_wp2_with(first|((with_reducible refine at_load 27 (.tmp 18) ?_);refine wpList_load_as laySt rfl (.tmp 18) rfl w5.heap.size 0 rfl ⟨y1,y2,y3,⟨ya1,yn1,yc1⟩,⟨ya2,ts.leas.length,yc2⟩,⟨ya3,yn3,yc3⟩,⟨ya4,yn4,yc4⟩⟩ (Raw.agg ⟨y1,y2,y3,⟨ya1,yn1,yc1⟩,⟨ya2,ts.leas.length,yc2⟩,⟨ya3,yn3,yc3⟩,⟨ya4,yn4,yc4⟩⟩) rfl HT.out.box.range ?_)|(go_at_call 17;((with_reducible refine(HOT.out _ w9 H1.out).mono ?_);rintro e w10 ⟨rfl,hb⟩;replace HBx:=Lib.hid (HBx.out.trans (hb.mono HBx.out.size));replace HGx:=Lib.hid (HGx.out.next hb);replace HT:=Lib.hid (HT.out.next hb);replace H1:=Lib.hid (H1.out.below hb);clear hb)))
           all_goals
            go_meet
            refine⟨?_,HGx,HT,H1,HBx⟩
            have hb:=HBF2.out
            have hnm:=HNUM.out
            have hin:=HIN.out
            have hp0:=hnm.p0
            have hb0:=hnm.b0
            have ho1:=hnm.os0
            have ho2:=hnm.ot0
            have h4:wrap64 (os-ot)=os- ot:=by unfold wrap64;omega
            congr 1
            generalize vr*tk= p at hp0 ⊢
            first
             |(rw[h4];rw[show wrap64 (1000*(os-ot))=1000* (os-ot) by unfold wrap64;omega];unfold wrap64;omega)
             |(unfold wrap64;omega)
          |false=>
           have hd:=of_decide_eq_false hg.symm
           have HBF2:Hid (bf=0):=Lib.hid (by rw[HBF.out,if_neg hd])
           clear hg hd HGB HBF k0' k11'
           go_wp2_with fail
           go_meet
           exact⟨by rw[HBF2.out,Int.add_zero],HGx,HT,H1,HBx⟩
         case rest=>
          obtain⟨rfl,HGx,HT,H1,HBx⟩:=hcut
          have hnm:=HNUM.out
          have hsum:=hnm.sum
          have hin:=HIN.out
          have hc0:=hnm.c0
          have hp0:=hnm.p0
          have hf0:=hnm.f0
          have hn0:=hnm.n0
          have b3:decide (hv+vr* tk+bf< gr+1000* ng)=false:= decide_eq_false (by omega)
          have HEND:Hid (0≤gr+ 1000*ng∧ gr+1000* ng+(bkF ts.tens id).1≤hv+ vr*tk+ bf∧hv+ vr*tk+ bf≤1000000000+ 4400000000000000*((k+1: Nat):Int)):=Lib.hid ⟨by omega,by omega,by push_cast;omega⟩
          clear hnm hsum hin hc0 hp0 hf0 hn0
          go_wp2_with(first|((with_reducible refine at_load 27 (.tmp 18) ?_);refine wpList_load_as laySt rfl (.tmp 18) rfl w5.heap.size 0 rfl ⟨y1,y2,y3,⟨ya1,yn1,yc1⟩,⟨ya2,ts.leas.length,yc2⟩,⟨ya3,yn3,yc3⟩,⟨ya4,yn4,yc4⟩⟩ (Raw.agg ⟨y1,y2,y3,⟨ya1,yn1,yc1⟩,⟨ya2,ts.leas.length,yc2⟩,⟨ya3,yn3,yc3⟩,⟨ya4,yn4,yc4⟩⟩) rfl HT.out.box.range ?_)|((with_reducible refine at_store 27 (.tmp 3) (.tmp 158) ?_);refine wpList_store_bex laySt rfl (.tmp 3) (.tmp 158) rfl w.heap.size ⟨y1,y2,y3,⟨ya1,yn1,yc1⟩,⟨ya2,ts.leas.length,yc2⟩,⟨ya3,yn3,yc3⟩,⟨ya4,yn4,yc4⟩⟩ _ rfl rfl HGx.out rfl ?_;intro wz hx hw;replace H1:=Lib.hid (H1.out.wrote HGx.out (misfits_st _) hw);replace HBx:=Lib.hid (HBx.out.trans (hw.below _ (Nat.le_refl _)));replace HGx:=Lib.hid hx;clear hx hw))
          exact⟨⟨k+1,⟨y1,y2,y3,⟨ya1,yn1,yc1⟩,⟨ya2,ts.leas.length,yc2⟩,⟨ya3,yn3,yc3⟩,⟨ya4,yn4,yc4⟩⟩,_,_,by omega,rfl,rfl,by go_num,by rw[HSTK.out];exact HEND,HGx,by rw[HSTK.out];exact H1,HBx⟩,by simp[intOf];omega⟩
   ·obtain rfl:k= es.length:=by omega
    go_wp2_with(go_at_call 9;((with_reducible refine(wakes19 _).mono ?_);rintro e wk ⟨rfl,hb⟩;replace HBx:=Lib.hid (HBx.out.trans (hb.mono HBx.out.size));clear hb))
    go_returns
    exact⟨rfl,HBx.out⟩
theorem law_sflow (s:St) (r:Raw) (es:List RwE) (a:Option Addr) (n c:Nat) (id:Int) (w:World) (h:StAt w 0 r s) (hi:InI s.stamp) (hl1:s.tens.length≤ 1000000000000000) (hl2:s.leas.length≤ 1000000000000000) (hl3:s.sess.length≤ 1000000000000000) (hl4:s.dsks.length≤ 1000000000000000)
 (hn:es.length= n) (hln:n≤ 1000000000000000) (hes:∀y∈ es,RowB w y.2.1 y.1.data∧y.1.data.length≤ y.2.2∧y.1.data.length≤ 1000000000000000∧InI y.1.stamp) (hr:LRow layRw w a es) (_:(Lit.int .i64 id).wf=true):
 Calls Tryz.prog 6 #[r.agg,.slice a n c,.int .i64 id] w fun e w'=>e= .returned (.bool true)∧Below w.heap.size w w':=by
 cases hok:stateOk s with
 |false=> exact sflow_bad s r es a n c id w h hi hl1 hl2 hl3 hl4 hn hln hes hr hok
 |true=> exact sflow_good s r es a n c id w h hi hl1 hl2 hl3 hl4 hn hln hes hr hok
end Go.Proofs.YtfdmhpohfjbpfaaGreat
