import Derived.Test.YtfdmhpohfjbpfaaGreatSq23
set_option linter.unusedVariables false
set_option linter.unusedSimpArgs false
namespace Go.Proofs.YtfdmhpohfjbpfaaGreat
open Go.ChangeShapes Go.WideShapes Go.ChangeAt Go.RowKit
set_option maxRecDepth 100000
theorem allS_ok:∀(l:List WEnt) {s:St},stateOk s=true→ stateOk (allS s l).1=true
 |[],_,h=>h
 |x:: l,s,h=>allS_ok l (apply_ok h x)
theorem fits_ok {s:St} (h:stateOk s=true):Fits s.leas:=(fun q=>leasOk_fits (stOk_parts q).1 (stOk_parts q).2.1) (stateOk_parts h).2.2.2.1
structure CapNum (b rate c burst ot os tk:Int):Prop where
 b0:0≤ b∧b≤ 1000000000
 r0:0≤ rate∧rate≤ 1000000
 c0:0≤ c∧c≤ 1000000000
 u0:0≤ burst∧burst≤ 1000000
 ot0:0≤ ot∧ot≤ 64000000
 os0:0≤ os∧os≤ 64000000
 p0:0≤ rate*tk∧ rate*tk≤ 4294967296000000
 room:0< c→c+ 1000*ot≤ 1000*burst
 sum:c+ 1000*ot≤ b+1000* os+rate* tk
theorem outs_range {s:St} (h:stOk s=true) (id:Int):0≤ outL s.leas id∧outL s.leas id≤64000000:= by
 obtain⟨h1,h2,h3,h4⟩:=stOk_parts h
 have:=outL_range id (leasOk_fits h1 h2)
 omega
theorem cap_num {s:St} (h:stateOk s=true) (x:WEnt) (id:Int):CapNum (bkF s.tens id).1 (bkF s.tens id).2.1 (bkF (applyS s x).1.tens id).1 (bkF (applyS s x).1.tens id).2.2 (outL (applyS s x).1.leas id) (outL s.leas id) (ticksC s x):=by
 have hq:=(stateOk_parts h).2.2.2.1
 have hq2:=(stateOk_parts (apply_ok h x)).2.2.2.1
 rw[bkF_eq (stOk_parts hq).1,bkF_eq (stOk_parts hq2).1]
 have hb:=buck_range (stOk_parts hq).1 id
 have hb2:=buck_range (stOk_parts hq2).1 id
 have ht:=ticksC_nonneg s x
 have hm:=Int.mul_nonneg hb.2.2.1 ht.1
 have hm2:(findT s.tens id).1.rate*ticksC s x≤1000000* 4294967296:=Int.mul_le_mul hb.2.2.2.1 ht.2 ht.1 (by decide)
 have hs:=apply_sum h x id
 unfold sumS at hs
 exact⟨⟨hb.1,hb.2.1⟩,⟨hb.2.2.1,hb.2.2.2.1⟩,⟨hb2.1,hb2.2.1⟩,⟨hb2.2.2.2.2.1,hb2.2.2.2.2.2⟩,outs_range hq2 id,outs_range hq id,⟨hm,by simp only;omega⟩,fun hc=>cap_room hq2 id hc,by simp only;omega⟩
set_option maxHeartbeats 8000000 in
theorem scap_bad (s:St) (r:Raw) (es:List RwE) (a:Option Addr) (n c:Nat) (id:Int) (w:World) (h:StAt w 0 r s) (hi:InI s.stamp) (hl1:s.tens.length≤ 1000000000000000) (hl2:s.leas.length≤ 1000000000000000) (hl3:s.sess.length≤ 1000000000000000) (hl4:s.dsks.length≤ 1000000000000000)
 (hn:es.length= n) (hln:n≤ 1000000000000000) (hes:∀y∈ es,RowB w y.2.1 y.1.data∧y.1.data.length≤ y.2.2∧y.1.data.length≤ 1000000000000000∧InI y.1.stamp) (hr:LRow layRw w a es) (hbad:stateOk s=false):
 Calls Tryz.prog 4 #[r.agg,.slice a n c,.int .i64 id] w fun e w'=>e= .returned (.bool true)∧Below w.heap.size w w':=by
 have HGR:=Lib.hid (fun w' (hb:Below w.heap.size w w')=>great19_any s r 0 w' (h.below hb) hl1 hl2 hl3 hl4)
 have HLG:=Lib.hid (fun w' (hb:Below w.heap.size w w')=>long_any es a n c w' hn (Row.below hr hb) (fun y hy=>(hes y hy).2.2.1) hln)
 have HCK:Hid (∀w',StAt w' 0 r s→(s.tens.length≤300∧ s.leas.length≤300∧ s.sess.length≤300∧ s.dsks.length≤300)→Calls Tryz.prog 14 #[r.agg] w' fun e w''=>e= .returned (.bool (stateOk s))∧Below w'.heap.size w' w''):=Lib.hid (fun w' hs hl=>refcheck_sta s r 0 w' hs (by omega) (by omega) (by omega) (by omega))
 have HSR:=Lib.hid h
 rw[hbad]at HCK
 clear hbad
 obtain⟨t1,t2,t3,⟨a1,n1,c1⟩,⟨a2,n2,c2⟩,⟨a3,n3,c3⟩,⟨a4,n4,c4⟩⟩:=r
 have HBx:Hid (Below w.heap.size w (w.alloc (.cells #[.int .i64 t1,.int .i64 t2,.int .i64 t3,.slice a1 n1 c1,.slice a2 n2 c2,.slice a3 n3 c3,.slice a4 n4 c4] 27))):=mid_alloc' (Below.refl _ _)
 have HGx:Hid (Bex (w.alloc (.cells #[.int .i64 t1,.int .i64 t2,.int .i64 t3,.slice a1 n1 c1,.slice a2 n2 c2,.slice a3 n3 c3,.slice a4 n4 c4] 27)) w.heap.size (Raw.cells ⟨t1,t2,t3,⟨a1,n1,c1⟩,⟨a2,n2,c2⟩,⟨a3,n3,c3⟩,⟨a4,n4,c4⟩⟩)):=Bex.new w (Raw.cells ⟨t1,t2,t3,⟨a1,n1,c1⟩,⟨a2,n2,c2⟩,⟨a3,n3,c3⟩,⟨a4,n4,c4⟩⟩) _
 have HSx:=Lib.hid (HSR.out.below HBx.out)
 clear h hi hl1 hl2 hl3 hl4 hes hr
 go_enter Tryz.func4,Tryz.ntmps4
 go_upto_region 1 with fail
 obtain⟨w1,hw1⟩:∃y,y=w.alloc (.cells #[.int .i64 t1,.int .i64 t2,.int .i64 t3,.slice a1 n1 c1,.slice a2 n2 c2,.slice a3 n3 c3,.slice a4 n4 c4] 27):=⟨_,rfl⟩
 rw[←hw1]at HBx HGx HSx ⊢
 clear hw1
 go_wp2_with(first|((with_reducible refine at_load 27 (.tmp 3) ?_);refine wpList_strip (by rfl) ?_;refine wpList_load_as laySt rfl (.tmp 3) rfl w.heap.size 0 rfl ⟨t1,t2,t3,⟨a1,n1,c1⟩,⟨a2,n2,c2⟩,⟨a3,n3,c3⟩,⟨a4,n4,c4⟩⟩ (Raw.agg ⟨t1,t2,t3,⟨a1,n1,c1⟩,⟨a2,n2,c2⟩,⟨a3,n3,c3⟩,⟨a4,n4,c4⟩⟩) rfl HGx.out.box.range ?_)|((with_reducible refine at_load 27 (.tmp 3) ?_);refine wpList_load_as laySt rfl (.tmp 3) rfl w.heap.size 0 rfl ⟨t1,t2,t3,⟨a1,n1,c1⟩,⟨a2,n2,c2⟩,⟨a3,n3,c3⟩,⟨a4,n4,c4⟩⟩ (Raw.agg ⟨t1,t2,t3,⟨a1,n1,c1⟩,⟨a2,n2,c2⟩,⟨a3,n3,c3⟩,⟨a4,n4,c4⟩⟩) rfl HGx.out.box.range ?_)|(go_at_call 7;((with_reducible refine(HGR.out _ HBx.out).mono ?_);rintro e w2 ⟨bg,rfl,hb,hgf⟩;replace HBx:=Lib.hid (HBx.out.trans (hb.mono HBx.out.size));replace HGx:=Lib.hid (HGx.out.next hb);replace HSx:=Lib.hid (HSx.out.below hb);have HGF:=Lib.hid hgf;clear hb hgf;cases bg))|(go_at_call 8;((with_reducible refine(HLG.out _ HBx.out).mono ?_);rintro e w3 ⟨bl,rfl,rfl,hlf⟩;have HLF:=Lib.hid hlf;clear hlf;cases bl))|(go_at_call 14;((with_reducible refine(HCK.out w3 HSx.out (by have:=HGF.out (by simp);omega)).mono ?_);rintro e w4 ⟨rfl,hb⟩;replace HBx:=Lib.hid (HBx.out.trans (hb.mono HBx.out.size));replace HGx:=Lib.hid (HGx.out.next hb);replace HSx:=Lib.hid (HSx.out.below hb);clear hb))|(go_at_call 9;((with_reducible refine(wakes19 _).mono ?_);rintro e wk ⟨rfl,hb⟩;replace HBx:=Lib.hid (HBx.out.trans (hb.mono HBx.out.size));clear hb)))
 all_goals
  go_returns
  exact⟨rfl,HBx.out⟩
set_option maxHeartbeats 8000000 in
theorem scap_good (s:St) (r:Raw) (es:List RwE) (a:Option Addr) (n c:Nat) (id:Int) (w:World) (h:StAt w 0 r s) (hi:InI s.stamp) (hl1:s.tens.length≤ 1000000000000000) (hl2:s.leas.length≤ 1000000000000000) (hl3:s.sess.length≤ 1000000000000000) (hl4:s.dsks.length≤ 1000000000000000)
 (hn:es.length= n) (hln:n≤ 1000000000000000) (hes:∀y∈ es,RowB w y.2.1 y.1.data∧y.1.data.length≤ y.2.2∧y.1.data.length≤ 1000000000000000∧InI y.1.stamp) (hr:LRow layRw w a es) (hok:stateOk s=true):
 Calls Tryz.prog 4 #[r.agg,.slice a n c,.int .i64 id] w fun e w'=>e= .returned (.bool true)∧Below w.heap.size w w':=by
 have HGR:=Lib.hid (fun w' (hb:Below w.heap.size w w')=>great19_any s r 0 w' (h.below hb) hl1 hl2 hl3 hl4)
 have HLG:=Lib.hid (fun w' (hb:Below w.heap.size w w')=>long_any es a n c w' hn (Row.below hr hb) (fun y hy=>(hes y hy).2.2.1) hln)
 have HCK:Hid (∀w',StAt w' 0 r s→(s.tens.length≤300∧ s.leas.length≤300∧ s.sess.length≤300∧ s.dsks.length≤300)→Calls Tryz.prog 14 #[r.agg] w' fun e w''=>e= .returned (.bool (stateOk s))∧Below w'.heap.size w' w''):=Lib.hid (fun w' hs hl=>refcheck_sta s r 0 w' hs (by omega) (by omega) (by omega) (by omega))
 have HSR:=Lib.hid h
 rw[hok]at HCK
 have HRW:=Lib.hid hr
 have HLE:=Lib.hid hn
 have HCUR:Hid (∀k,stateOk (allS s (ents (es.take k))).1=true∧ InI (allS s (ents (es.take k))).1.stamp):=Lib.hid (fun k=>⟨allS_ok _ hok,allS_stamp _ hi (by
  intro x hx
  obtain⟨y,hy,rfl⟩:=List.mem_map.1 hx
  exact(hes y (List.mem_of_mem_take hy)).2.2.2)⟩)
 have HSTP:Hid (∀k (hk:k< es.length),(allS s (ents (es.take (k+1)))).1=(applyS (allS s (ents (es.take k))).1 es[k].1).1):=Lib.hid (fun k hk=>by
  rw[List.take_succ_eq_append_getElem hk];unfold ents;rw[List.map_append];exact congrArg Prod.fst (allS_snoc _ _ _))
 have HES:=Lib.hid (fun(h80:sumD es≤8000) w' (hb:Below w.heap.size w w')=>ents_in hes h80 hb)
 clear hok
 obtain⟨t1,t2,t3,⟨a1,n1,c1⟩,⟨a2,n2,c2⟩,⟨a3,n3,c3⟩,⟨a4,n4,c4⟩⟩:=r
 have HBx:Hid (Below w.heap.size w (w.alloc (.cells #[.int .i64 t1,.int .i64 t2,.int .i64 t3,.slice a1 n1 c1,.slice a2 n2 c2,.slice a3 n3 c3,.slice a4 n4 c4] 27))):=mid_alloc' (Below.refl _ _)
 have HGx:Hid (Bex (w.alloc (.cells #[.int .i64 t1,.int .i64 t2,.int .i64 t3,.slice a1 n1 c1,.slice a2 n2 c2,.slice a3 n3 c3,.slice a4 n4 c4] 27)) w.heap.size (Raw.cells ⟨t1,t2,t3,⟨a1,n1,c1⟩,⟨a2,n2,c2⟩,⟨a3,n3,c3⟩,⟨a4,n4,c4⟩⟩)):=Bex.new w (Raw.cells ⟨t1,t2,t3,⟨a1,n1,c1⟩,⟨a2,n2,c2⟩,⟨a3,n3,c3⟩,⟨a4,n4,c4⟩⟩) _
 have HSx:=Lib.hid (HSR.out.below HBx.out)
 clear h hi hl1 hl2 hl3 hl4 hes hr
 go_enter Tryz.func4,Tryz.ntmps4
 go_upto_region 1 with fail
 obtain⟨w1,hw1⟩:∃y,y=w.alloc (.cells #[.int .i64 t1,.int .i64 t2,.int .i64 t3,.slice a1 n1 c1,.slice a2 n2 c2,.slice a3 n3 c3,.slice a4 n4 c4] 27):=⟨_,rfl⟩
 rw[←hw1]at HBx HGx HSx ⊢
 clear hw1
 go_upto_if 28 with(first|((with_reducible refine at_load 27 (.tmp 3) ?_);refine wpList_strip (by rfl) ?_;refine wpList_load_as laySt rfl (.tmp 3) rfl w.heap.size 0 rfl ⟨t1,t2,t3,⟨a1,n1,c1⟩,⟨a2,n2,c2⟩,⟨a3,n3,c3⟩,⟨a4,n4,c4⟩⟩ (Raw.agg ⟨t1,t2,t3,⟨a1,n1,c1⟩,⟨a2,n2,c2⟩,⟨a3,n3,c3⟩,⟨a4,n4,c4⟩⟩) rfl HGx.out.box.range ?_)|((with_reducible refine at_load 27 (.tmp 3) ?_);refine wpList_load_as laySt rfl (.tmp 3) rfl w.heap.size 0 rfl ⟨t1,t2,t3,⟨a1,n1,c1⟩,⟨a2,n2,c2⟩,⟨a3,n3,c3⟩,⟨a4,n4,c4⟩⟩ (Raw.agg ⟨t1,t2,t3,⟨a1,n1,c1⟩,⟨a2,n2,c2⟩,⟨a3,n3,c3⟩,⟨a4,n4,c4⟩⟩) rfl HGx.out.box.range ?_)|(go_at_call 7;((with_reducible refine(HGR.out _ HBx.out).mono ?_);rintro e w2 ⟨bg,rfl,hb,hgf⟩;replace HBx:=Lib.hid (HBx.out.trans (hb.mono HBx.out.size));replace HGx:=Lib.hid (HGx.out.next hb);replace HSx:=Lib.hid (HSx.out.below hb);have HGF:=Lib.hid hgf;clear hb hgf;cases bg))|(go_at_call 8;((with_reducible refine(HLG.out _ HBx.out).mono ?_);rintro e w3 ⟨bl,rfl,rfl,hlf⟩;have HLF:=Lib.hid hlf;clear hlf;cases bl))|(go_at_call 14;((with_reducible refine(HCK.out w3 HSx.out (by have:=HGF.out (by simp);omega)).mono ?_);rintro e w4 ⟨rfl,hb⟩;replace HBx:=Lib.hid (HBx.out.trans (hb.mono HBx.out.size));replace HGx:=Lib.hid (HGx.out.next hb);replace HSx:=Lib.hid (HSx.out.below hb);clear hb)))
 rotate_left
 ·go_wp2_with(go_at_call 9;((with_reducible refine(wakes19 _).mono ?_);rintro e wk ⟨rfl,hb⟩;replace HBx:=Lib.hid (HBx.out.trans (hb.mono HBx.out.size));clear hb))
  go_returns
  exact⟨rfl,HBx.out⟩
 ·go_wp2_with(go_at_call 9;((with_reducible refine(wakes19 _).mono ?_);rintro e wk ⟨rfl,hb⟩;replace HBx:=Lib.hid (HBx.out.trans (hb.mono HBx.out.size));clear hb))
  go_returns
  exact⟨rfl,HBx.out⟩
 ·obtain⟨h40,h80⟩:=HLF.out (by simp)
  replace HES:=Lib.hid (HES.out h80)
  clear HLF HGF HGR HLG HCK HSR h80
  go_wp2
  go_loopw [32] (fun si wr=>∃k: Nat,∃q,k≤es.length∧ si= .int .i64 k∧Hid (Bex wr w.heap.size (Raw.cells q))∧Hid (StAt wr 0 q (allS s (ents (es.take k))).1)∧Hid (Below w.heap.size w wr)) (fun si _=>es.length- (intOf si).toNat)
  case atStart=>exact ⟨0,⟨t1,t2,t3,⟨a1,n1,c1⟩,⟨a2,n2,c2⟩,⟨a3,n3,c3⟩,⟨a4,n4,c4⟩⟩,by omega,rfl,HGx,HSx,HBx⟩
  case round=>
   clear HGx HSx HBx
   obtain⟨k,⟨q1,q2,q3,⟨qa1,qn1,qc1⟩,⟨qa2,qn2,qc2⟩,⟨qa3,qn3,qc3⟩,⟨qa4,qn4,qc4⟩⟩,hk,rfl,HGx,HSx,HBx⟩:=hrel
   have hln:=HLE.out
   by_cases hlt:k< es.length
   ·have hltn:k< n:=by omega
    obtain⟨b,o,rfl,hcs⟩:=LRow.range HRW.out hlt
    have HY:=Lib.hid (hcs wr HBx.out)
    have HYE:=Lib.hid (HES.out wr HBx.out es[k] (List.getElem_mem hlt))
    have HSTK:=Lib.hid (HSTP.out k hlt)
    obtain⟨hcok,hcst⟩:=HCUR.out k
    have hzr:w.heap.size< wr.heap.size:=HGx.out.lt
    clear hcs
    generalize(allS s (ents (es.take k))).1=st at HSx HSTK hcok hcst
    generalize es[k]=y at HY HYE HSTK
    obtain⟨x,px⟩:=y
    have HAPP:Hid (∀w',Below wr.heap.size wr w'→StAt w' 0 ⟨q1,q2,q3,⟨qa1,qn1,qc1⟩,⟨qa2,qn2,qc2⟩,⟨qa3,qn3,qc3⟩,⟨qa4,qn4,qc4⟩⟩ st→Calls Tryz.prog 15 #[Raw.agg ⟨q1,q2,q3,⟨qa1,qn1,qc1⟩,⟨qa2,qn2,qc2⟩,⟨qa3,qn3,qc3⟩,⟨qa4,qn4,qc4⟩⟩,(.agg #[.int .i64 x.term,.int .i8 x.kind,.int .i64 x.stamp,B x.set,.slice px.1 x.data.length px.2])] w' (RetSAB w'.heap.size w' (applyS st x))):=Lib.hid (fun w' hb' hq=>apply_any st _ x px w' hq (ok_small hcok) hcst HYE.out.2.2.2 (HYE.out.1.below hb') HYE.out.2.1 HYE.out.2.2.1)
    have HNUM:=Lib.hid (cap_num hcok x id)
    have HBK:Hid (∀w',StAt w' 0 ⟨q1,q2,q3,⟨qa1,qn1,qc1⟩,⟨qa2,qn2,qc2⟩,⟨qa3,qn3,qc3⟩,⟨qa4,qn4,qc4⟩⟩ st→Calls Tryz.prog 16 #[Raw.agg ⟨q1,q2,q3,⟨qa1,qn1,qc1⟩,⟨qa2,qn2,qc2⟩,⟨qa3,qn3,qc3⟩,⟨qa4,qn4,qc4⟩⟩,.int .i64 id] w' fun e w''=>e= .returned (.tuple #[.int .i64 (bkF st.tens id).1,.int .i64 (bkF st.tens id).2.1,.int .i64 (bkF st.tens id).2.2])∧Below w'.heap.size w' w''):=Lib.hid (fun w' hs=>bucket_any st ⟨q1,q2,q3,⟨qa1,qn1,qc1⟩,⟨qa2,qn2,qc2⟩,⟨qa3,qn3,qc3⟩,⟨qa4,qn4,qc4⟩⟩ 0 id w' hs (by have:=(ok_small hcok).ten;omega))
    have HBT2:Hid (∀q w',StAt w' 0 q (applyS st x).1→Calls Tryz.prog 16 #[q.agg,.int .i64 id] w' fun e w''=>e= .returned (.tuple #[.int .i64 (bkF (applyS st x).1.tens id).1,.int .i64 (bkF (applyS st x).1.tens id).2.1,.int .i64 (bkF (applyS st x).1.tens id).2.2])∧Below w'.heap.size w' w''):=Lib.hid (fun q w' hs=>bucket_any _ q 0 id w' hs (by have:=(ok_small (apply_ok hcok x)).ten;omega))
    have HOS:Hid (∀w',StAt w' 0 ⟨q1,q2,q3,⟨qa1,qn1,qc1⟩,⟨qa2,qn2,qc2⟩,⟨qa3,qn3,qc3⟩,⟨qa4,qn4,qc4⟩⟩ st→Calls Tryz.prog 17 #[Raw.agg ⟨q1,q2,q3,⟨qa1,qn1,qc1⟩,⟨qa2,qn2,qc2⟩,⟨qa3,qn3,qc3⟩,⟨qa4,qn4,qc4⟩⟩,.int .i64 id] w' fun e w''=>e= .returned (.int .i64 (outL st.leas id))∧Below w'.heap.size w' w''):=Lib.hid (fun w' hs=>out19_any st ⟨q1,q2,q3,⟨qa1,qn1,qc1⟩,⟨qa2,qn2,qc2⟩,⟨qa3,qn3,qc3⟩,⟨qa4,qn4,qc4⟩⟩ 0 id w' hs (by have:=(ok_small hcok).lea;omega) (fits_ok hcok))
    have HOT:Hid (∀q w',StAt w' 0 q (applyS st x).1→Calls Tryz.prog 17 #[q.agg,.int .i64 id] w' fun e w''=>e= .returned (.int .i64 (outL (applyS st x).1.leas id))∧Below w'.heap.size w' w''):=Lib.hid (fun q w' hs=>out19_any _ q 0 id w' hs (by have:=(ok_small (apply_ok hcok x)).lea;omega) (fits_ok (apply_ok hcok x)))
    have HCT:Hid (∀q w',StAt w' 0 q (applyS st x).1→Calls Tryz.prog 14 #[q.agg] w' fun e w''=>e= .returned (.bool true)∧Below w'.heap.size w' w''):=Lib.hid (fun q w' hs=>by
     have hsm:=ok_small (apply_ok hcok x)
     have h:=refcheck_sta (applyS st x).1 q 0 w' hs (by have:=hsm.ten;omega) (by have:=hsm.lea;omega) (by have:=hsm.ses;omega) (by have:=hsm.dsk;omega)
     rw[apply_ok hcok x]at h
     exact h)
    have HTC:Hid (ticksC st x=if 1≤x.term∧ x.term=st.term∧ st.stamp<x.stamp then min (x.stamp-st.stamp) 4294967296 else 0):=rfl
    have HS0:=Lib.hid (And.intro (stateOk_parts hcok).2.1 (And.intro hcst HYE.out.2.2.2))
    have hqt:=HSx.out.term
    have hqs:=HSx.out.stamp
    simp only at hqt hqs
    rw[←hqt,←hqs]at HTC
    rw[←hqs]at HS0
    clear hcok hcst hqt hqs
    generalize ticksC st x=tk at HNUM HTC
    generalize(applyS st x)=ap at HSTK HAPP HNUM HBT2 HOT HCT
    obtain⟨ts,⟨ae,ar,ab,al,az⟩⟩:=ap
    simp only at HSTK HNUM HBT2 HOT HCT
    generalize bkF st.tens id=bs at HNUM HBK
    generalize bkF ts.tens id=bt at HNUM HBT2
    obtain⟨vb,vr,vu⟩:=bs
    obtain⟨vc,vr2,vu2⟩:=bt
    generalize outL st.leas id=os at HNUM HOS
    generalize outL ts.leas id=ot at HNUM HOT
    simp only at HNUM HBK HBT2
    go_upto_region 10 with(first|((with_reducible refine at_load 45 (.tmp 34) ?_);refine wpList_load_as layRw rfl (.tmp 34) rfl b (o+k* 5) rfl (x,px) (.agg #[.int .i64 x.term,.int .i8 x.kind,.int .i64 x.stamp,B x.set,.slice px.1 x.data.length px.2]) rfl (by exact HY.out) ?_)|((with_reducible refine at_store 45 (.tmp 8) (.tmp 35) ?_);refine wpList_store_bex layRw rfl (.tmp 8) (.tmp 35) rfl wr.heap.size (x,px) _ rfl rfl (Bex.new _ _ _) rfl ?_;intro w2 hx hw;have hb:=((Below.refl wr.heap.size wr).alloc (Nat.le_refl _) _).trans (hw.below _ (Nat.le_refl _));have HWR:=Lib.hid hb;have HE:=Lib.hid hx;replace HBx:=Lib.hid (HBx.out.trans (hb.mono HBx.out.size));replace HGx:=Lib.hid (HGx.out.next hb);replace HSx:=Lib.hid (HSx.out.below hb);have hz2:=HE.out.lt;clear hx hw hb)|((with_reducible refine at_load 27 (.tmp 3) ?_);refine wpList_load_as laySt rfl (.tmp 3) rfl w.heap.size 0 rfl ⟨q1,q2,q3,⟨qa1,qn1,qc1⟩,⟨qa2,qn2,qc2⟩,⟨qa3,qn3,qc3⟩,⟨qa4,qn4,qc4⟩⟩ (Raw.agg ⟨q1,q2,q3,⟨qa1,qn1,qc1⟩,⟨qa2,qn2,qc2⟩,⟨qa3,qn3,qc3⟩,⟨qa4,qn4,qc4⟩⟩) rfl HGx.out.box.range ?_)|((with_reducible refine at_load 45 (.tmp 8) ?_);refine wpList_load_as layRw rfl (.tmp 8) rfl wr.heap.size 0 rfl (x,px) (.agg #[.int .i64 x.term,.int .i8 x.kind,.int .i64 x.stamp,B x.set,.slice px.1 x.data.length px.2]) rfl HE.out.box.range ?_)|(go_at_call 15;((with_reducible refine(HAPP.out w2 HWR.out HSx.out).mono ?_);rintro e w5 ⟨⟨y1,y2,y3,⟨ya1,yn1,yc1⟩,⟨ya2,yn2,yc2⟩,⟨ya3,yn3,yc3⟩,⟨ya4,yn4,yc4⟩⟩,rfl,hst,hb⟩;have H1:=Lib.hid (hst.mono (Nat.zero_le _));replace HBx:=Lib.hid (HBx.out.trans (hb.mono HBx.out.size));replace HGx:=Lib.hid (HGx.out.next hb);replace HE:=Lib.hid (HE.out.next hb);replace HSx:=Lib.hid (HSx.out.below hb);have hz5:=hb.size;clear hst hb HAPP))|((with_reducible refine at_store 27 (.tmp 9) (.tmp 40) ?_);refine wpList_store_bex laySt rfl (.tmp 9) (.tmp 40) rfl w5.heap.size ⟨y1,y2,y3,⟨ya1,yn1,yc1⟩,⟨ya2,yn2,yc2⟩,⟨ya3,yn3,yc3⟩,⟨ya4,yn4,yc4⟩⟩ _ rfl rfl (by exact Bex.of_alloc (mid_alloc' (Below.refl _ _))) rfl ?_;intro w6 hx hw;have hb:=(show Below w5.heap.size w5 _ from mid_alloc' (mid_alloc' (Below.refl _ _))).trans (hw.below _ (Nat.le_refl _));have HT:=Lib.hid hx;have h9:=ans_new (w5.alloc (.cells #[.int .i64 0,.int .i64 0,.int .i64 0,.slice none 0 0,.slice none 0 0,.slice none 0 0,.slice none 0 0] 27));rw[World.size_alloc]at h9;have HU:=Lib.hid (h9.wrote hw (by omega));replace HBx:=Lib.hid (HBx.out.trans (hb.mono HBx.out.size));replace HGx:=Lib.hid (HGx.out.next hb);replace HE:=Lib.hid (HE.out.next hb);replace HSx:=Lib.hid (HSx.out.below hb);replace H1:=Lib.hid (H1.out.below hb);clear hx hw hb h9)|((with_reducible refine at_store 40 (.tmp 10) (.tmp 41) ?_);refine wpList_store_bex layAns rfl (.tmp 10) (.tmp 41) rfl (w5.heap.size+1) ⟨ae,ar,ab,al,az⟩ _ rfl rfl HU.out rfl ?_;intro w7 hx hw;replace HBx:=Lib.hid (HBx.out.trans (hw.below _ (by omega)));replace HGx:=Lib.hid (HGx.out.wrote hw (by omega));replace HE:=Lib.hid (HE.out.wrote hw (by omega));replace HT:=Lib.hid (HT.out.wrote hw (by omega));replace HSx:=Lib.hid (HSx.out.wrote HU.out (misfits_ans _) hw);replace H1:=Lib.hid (H1.out.wrote HU.out (misfits_ans _) hw);clear hx hw HU)|((with_reducible refine at_load 27 (.tmp 9) ?_);refine wpList_load_as laySt rfl (.tmp 9) rfl w5.heap.size 0 rfl ⟨y1,y2,y3,⟨ya1,yn1,yc1⟩,⟨ya2,yn2,yc2⟩,⟨ya3,yn3,yc3⟩,⟨ya4,yn4,yc4⟩⟩ (Raw.agg ⟨y1,y2,y3,⟨ya1,yn1,yc1⟩,⟨ya2,yn2,yc2⟩,⟨ya3,yn3,yc3⟩,⟨ya4,yn4,yc4⟩⟩) rfl HT.out.box.range ?_)|(go_at_call 16;((with_reducible refine(HBK.out w7 HSx.out).mono ?_);rintro e w8 ⟨rfl,hb⟩;replace HBx:=Lib.hid (HBx.out.trans (hb.mono HBx.out.size));replace HGx:=Lib.hid (HGx.out.next hb);replace HE:=Lib.hid (HE.out.next hb);replace HT:=Lib.hid (HT.out.next hb);replace HSx:=Lib.hid (HSx.out.below hb);replace H1:=Lib.hid (H1.out.below hb);clear hb))|(go_at_call 16;((with_reducible refine(HBT2.out _ w8 H1.out).mono ?_);rintro e w9 ⟨rfl,hb⟩;replace HBx:=Lib.hid (HBx.out.trans (hb.mono HBx.out.size));replace HGx:=Lib.hid (HGx.out.next hb);replace HE:=Lib.hid (HE.out.next hb);replace HT:=Lib.hid (HT.out.next hb);replace HSx:=Lib.hid (HSx.out.below hb);replace H1:=Lib.hid (H1.out.below hb);clear hb)))
    (try simp only[Act.put])
    have e0:=HE.out.box.cell (j:=0) rfl
    have e2:=HE.out.box.cell (j:=2) rfl
    have g0:=HGx.out.box.cell (j:=0) rfl
    have g1:=HGx.out.box.cell (j:=1) rfl
    (try simp only at e0 e2 g0 g1)
    obtain⟨gd,hgd⟩:∃gd: Bool,gd=decide (1≤x.term∧ x.term=q1∧ q2<x.stamp):=⟨_,rfl⟩
    have HGD:=Lib.hid hgd
    clear hgd
    go_cut [72]from 56 to 71 (fun v wx=> .bool gd=v∧ w9=wx)
    case first=>
     by_cases d1:1≤ x.term
     ·have b1:decide (1≤x.term)=true:= decide_eq_true d1
      by_cases d2:x.term= q1
      ·have b2:(x.term==q1)=true:= by simpa using d2
       by_cases d3:q2< x.stamp
       ·have b3:decide (q2<x.stamp)=true:= decide_eq_true d3
        have hg:gd= true:=by rw[HGD.out];exact decide_eq_true ⟨d1,d2,d3⟩
        subst hg
        clear d1 d2 d3 HGD
        go_wp2_with fail
        go_meet
        exact⟨rfl,rfl⟩
       ·have b3:decide (q2<x.stamp)=false:= decide_eq_false d3
        have hg:gd= false:=by rw[HGD.out];exact decide_eq_false (fun h=>d3 h.2.2)
        subst hg
        clear d1 d2 d3 HGD
        go_wp2_with fail
        go_meet
        exact⟨rfl,rfl⟩
      ·have b2:(x.term==q1)=false:= by simpa using d2
       have hg:gd= false:=by rw[HGD.out];exact decide_eq_false (fun h=>d2 h.2.1)
       subst hg
       clear d1 d2 HGD
       go_wp2_with fail
       go_meet
       exact⟨rfl,rfl⟩
     ·have b1:decide (1≤x.term)=false:= decide_eq_false d1
      have hg:gd= false:=by rw[HGD.out];exact decide_eq_false (fun h=>d1 h.1)
      subst hg
      clear d1 HGD
      go_wp2_with fail
      go_meet
      exact⟨rfl,rfl⟩
    case rest=>
     obtain⟨rfl,rfl⟩:=hcut
     go_upto_if 72 with fail
     go_cut [17]from 72 to 78 (fun v wx=> .int .i64 tk=v∧ w9=wx)
     case first=>
      have hg:=HGD.out
      cases gd with
      |true=>
       have hd:=of_decide_eq_true hg.symm
       have HTK:Hid (tk=min (x.stamp-q2) 4294967296):=Lib.hid (by rw[HTC.out,if_pos hd])
       have HD3:=Lib.hid hd.2.2
       clear hg hd HGD HTC
       go_wp2_with fail
       all_goals
        go_meet
        refine⟨?_,rfl⟩
        have h1:=HTK.out
        have h2:=HS0.out
        have h3:=HD3.out
        have h4:wrap64 (x.stamp-q2)=x.stamp- q2:=by unfold wrap64;unfold InI at h2;omega
        congr 1
        omega
      |false=>
       have hd:=of_decide_eq_false hg.symm
       have HTK:Hid (tk=0):=Lib.hid (by rw[HTC.out,if_neg hd])
       clear hg hd HGD HTC
       go_wp2_with fail
       go_meet
       exact⟨by rw[HTK.out],rfl⟩
     case rest=>
      obtain⟨rfl,rfl⟩:=hcut
      clear e0 e2 g0 g1 HGD HTC HS0 HE
      go_upto_region 12 with fail
      go_cut [96]from 79 to 95 (fun v wx=> .bool false=v∧ Hid (Bex wx w.heap.size (Raw.cells ⟨q1,q2,q3,⟨qa1,qn1,qc1⟩,⟨qa2,qn2,qc2⟩,⟨qa3,qn3,qc3⟩,⟨qa4,qn4,qc4⟩⟩))∧Hid (StAt wx 0 ⟨q1,q2,q3,⟨qa1,qn1,qc1⟩,⟨qa2,qn2,qc2⟩,⟨qa3,qn3,qc3⟩,⟨qa4,qn4,qc4⟩⟩ st)∧Hid (Bex wx w5.heap.size (Raw.cells ⟨y1,y2,y3,⟨ya1,yn1,yc1⟩,⟨ya2,yn2,yc2⟩,⟨ya3,yn3,yc3⟩,⟨ya4,yn4,yc4⟩⟩))∧Hid (StAt wx 0 ⟨y1,y2,y3,⟨ya1,yn1,yc1⟩,⟨ya2,yn2,yc2⟩,⟨ya3,yn3,yc3⟩,⟨ya4,yn4,yc4⟩⟩ ts)∧Hid (Below w.heap.size w wx))
      case first=>
       by_cases hc:0< vc
       ·have b1:decide (0<vc)=true:= decide_eq_true hc
        have hnm:=HNUM.out
        have hro:=hnm.room hc
        have w1':wrap64 (1000*ot)=1000* ot:=by have:=hnm.ot0;unfold wrap64;omega
        have w2':wrap64 (vc+1000* ot)=vc+ 1000*ot:= by have:=hnm.ot0;have:=hnm.c0;unfold wrap64;omega
        have w3':wrap64 (1000*vu2)=1000* vu2:=by have:=hnm.u0;unfold wrap64;omega
        have b2:decide (1000*vu2< vc+1000* ot)=false:= decide_eq_false (by omega)
        clear hc hnm hro
        go_wp2_with(first|((with_reducible refine at_load 27 (.tmp 9) ?_);refine wpList_strip (by rfl) ?_;refine wpList_load_as laySt rfl (.tmp 9) rfl w5.heap.size 0 rfl ⟨y1,y2,y3,⟨ya1,yn1,yc1⟩,⟨ya2,yn2,yc2⟩,⟨ya3,yn3,yc3⟩,⟨ya4,yn4,yc4⟩⟩ (Raw.agg ⟨y1,y2,y3,⟨ya1,yn1,yc1⟩,⟨ya2,yn2,yc2⟩,⟨ya3,yn3,yc3⟩,⟨ya4,yn4,yc4⟩⟩) rfl HT.out.box.range ?_)|((with_reducible refine at_load 27 (.tmp 9) ?_);refine wpList_load_as laySt rfl (.tmp 9) rfl w5.heap.size 0 rfl ⟨y1,y2,y3,⟨ya1,yn1,yc1⟩,⟨ya2,yn2,yc2⟩,⟨ya3,yn3,yc3⟩,⟨ya4,yn4,yc4⟩⟩ (Raw.agg ⟨y1,y2,y3,⟨ya1,yn1,yc1⟩,⟨ya2,yn2,yc2⟩,⟨ya3,yn3,yc3⟩,⟨ya4,yn4,yc4⟩⟩) rfl HT.out.box.range ?_)|(go_at_call 14;((with_reducible refine(HCT.out _ w9 H1.out).mono ?_);rintro e w10 ⟨rfl,hb⟩;replace HBx:=Lib.hid (HBx.out.trans (hb.mono HBx.out.size));replace HGx:=Lib.hid (HGx.out.next hb);replace HT:=Lib.hid (HT.out.next hb);replace HSx:=Lib.hid (HSx.out.below hb);replace H1:=Lib.hid (H1.out.below hb);clear hb))|(go_at_call 17;((with_reducible refine(HOT.out _ w10 H1.out).mono ?_);rintro e w11 ⟨rfl,hb⟩;replace HBx:=Lib.hid (HBx.out.trans (hb.mono HBx.out.size));replace HGx:=Lib.hid (HGx.out.next hb);replace HT:=Lib.hid (HT.out.next hb);replace HSx:=Lib.hid (HSx.out.below hb);replace H1:=Lib.hid (H1.out.below hb);clear hb)))
        go_meet
        exact⟨rfl,HGx,HSx,HT,H1,HBx⟩
       ·have b1:decide (0<vc)=false:= decide_eq_false hc
        clear hc
        go_wp2_with(first|((with_reducible refine at_load 27 (.tmp 9) ?_);refine wpList_strip (by rfl) ?_;refine wpList_load_as laySt rfl (.tmp 9) rfl w5.heap.size 0 rfl ⟨y1,y2,y3,⟨ya1,yn1,yc1⟩,⟨ya2,yn2,yc2⟩,⟨ya3,yn3,yc3⟩,⟨ya4,yn4,yc4⟩⟩ (Raw.agg ⟨y1,y2,y3,⟨ya1,yn1,yc1⟩,⟨ya2,yn2,yc2⟩,⟨ya3,yn3,yc3⟩,⟨ya4,yn4,yc4⟩⟩) rfl HT.out.box.range ?_)|((with_reducible refine at_load 27 (.tmp 9) ?_);refine wpList_load_as laySt rfl (.tmp 9) rfl w5.heap.size 0 rfl ⟨y1,y2,y3,⟨ya1,yn1,yc1⟩,⟨ya2,yn2,yc2⟩,⟨ya3,yn3,yc3⟩,⟨ya4,yn4,yc4⟩⟩ (Raw.agg ⟨y1,y2,y3,⟨ya1,yn1,yc1⟩,⟨ya2,yn2,yc2⟩,⟨ya3,yn3,yc3⟩,⟨ya4,yn4,yc4⟩⟩) rfl HT.out.box.range ?_)|(go_at_call 14;((with_reducible refine(HCT.out _ w9 H1.out).mono ?_);rintro e w10 ⟨rfl,hb⟩;replace HBx:=Lib.hid (HBx.out.trans (hb.mono HBx.out.size));replace HGx:=Lib.hid (HGx.out.next hb);replace HT:=Lib.hid (HT.out.next hb);replace HSx:=Lib.hid (HSx.out.below hb);replace H1:=Lib.hid (H1.out.below hb);clear hb))|(go_at_call 17;((with_reducible refine(HOT.out _ w10 H1.out).mono ?_);rintro e w11 ⟨rfl,hb⟩;replace HBx:=Lib.hid (HBx.out.trans (hb.mono HBx.out.size));replace HGx:=Lib.hid (HGx.out.next hb);replace HT:=Lib.hid (HT.out.next hb);replace HSx:=Lib.hid (HSx.out.below hb);replace H1:=Lib.hid (H1.out.below hb);clear hb)))
        go_meet
        exact⟨rfl,HGx,HSx,HT,H1,HBx⟩
      case rest=>
       obtain⟨rfl,HGx,HSx,HT,H1,HBx⟩:=hcut
       have hnm:=HNUM.out
       obtain⟨p,hp⟩:∃p,p=vr* tk:=⟨_,rfl⟩
       have hsum:=hnm.sum
       have hp0:=hnm.p0
       rw[←hp]at hsum hp0
       have w1':IntKind.i64.wrap (1000*ot)=1000* ot:=IntWalk.i64_in _ (by have:=hnm.ot0;omega)
       have w2':IntKind.i64.wrap (vc+1000* ot)=vc+ 1000*ot:= IntWalk.i64_in _ (by have:=hnm.ot0;have:=hnm.c0;omega)
       have w3':IntKind.i64.wrap (1000*os)=1000* os:=IntWalk.i64_in _ (by have:=hnm.os0;omega)
       have w4':IntKind.i64.wrap (vb+1000* os)=vb+ 1000*os:= IntWalk.i64_in _ (by have:=hnm.os0;have:=hnm.b0;omega)
       have w5':IntKind.i64.wrap (vr*tk)=vr* tk:=IntWalk.i64_in _ (by rw[←hp];omega)
       have w6':IntKind.i64.wrap (vb+1000* os+vr* tk)=vb+ 1000*os+ vr*tk:= IntWalk.i64_in _ (by rw[←hp];have:=hnm.os0;have:=hnm.b0;omega)
       have b3:decide (vb+1000* os+vr* tk<vc+ 1000*ot)=false:= decide_eq_false (by rw[←hp];omega)
       clear hnm hsum hp0 hp
       go_upto_region 14 with fail
       (try simp only[Act.put])
       refine wrq (fun l w'=>(w'.cell? ⟨w5.heap.size,0,none⟩=some (.int .i64 y1)∧w'.cell? ⟨w5.heap.size,1,none⟩=some (.int .i64 y2)∧w'.cell? ⟨w5.heap.size,2,none⟩=some (.int .i64 y3)∧w'.cell? ⟨w5.heap.size,3,none⟩=some (.slice ya1 yn1 yc1)∧w'.cell? ⟨w5.heap.size,4,none⟩=some (.slice ya2 yn2 yc2)∧w'.cell? ⟨w5.heap.size,5,none⟩=some (.slice ya3 yn3 yc3)∧w'.cell? ⟨w5.heap.size,6,none⟩=some (.slice ya4 yn4 yc4)∧w'.cell? ⟨w.heap.size,0,none⟩=some (.int .i64 q1)∧w'.cell? ⟨w.heap.size,1,none⟩=some (.int .i64 q2)∧w'.cell? ⟨w.heap.size,2,none⟩=some (.int .i64 q3)∧w'.cell? ⟨w.heap.size,3,none⟩=some (.slice qa1 qn1 qc1)∧w'.cell? ⟨w.heap.size,4,none⟩=some (.slice qa2 qn2 qc2)∧w'.cell? ⟨w.heap.size,5,none⟩=some (.slice qa3 qn3 qc3)∧w'.cell? ⟨w.heap.size,6,none⟩=some (.slice qa4 qn4 qc4))) ?_
       refine toS ⟨HT.out.drew.box.cell (j:=0) rfl,HT.out.drew.box.cell (j:=1) rfl,HT.out.drew.box.cell (j:=2) rfl,HT.out.drew.box.cell (j:=3) rfl,HT.out.drew.box.cell (j:=4) rfl,HT.out.drew.box.cell (j:=5) rfl,HT.out.drew.box.cell (j:=6) rfl,HGx.out.drew.box.cell (j:=0) rfl,HGx.out.drew.box.cell (j:=1) rfl,HGx.out.drew.box.cell (j:=2) rfl,HGx.out.drew.box.cell (j:=3) rfl,HGx.out.drew.box.cell (j:=4) rfl,HGx.out.drew.box.cell (j:=5) rfl,HGx.out.drew.box.cell (j:=6) rfl⟩ ?_
       refine tkq 0 ?_
       refine tkq 1 ?_
       refine tkq 2 ?_
       refine tkq 6 ?_
       refine tkq 7 ?_
       refine tkq 8 ?_
       refine tkq 12 ?_
       refine tkq 13 ?_
       refine tkq 14 ?_
       refine soq 3 (fun K hK=> ?_)
       go_simp
       go_at_call 17
       with_reducible refine(HOT.out _ wc.drew (H1.out.below ((Below.refl _ _).drew))).mono ?_
       rintro e v1 ⟨rfl,hb⟩
       replace hb:Below wc.heap.size wc v1:=⟨hb.os,hb.tape,hb.output,hb.size,hb.block⟩
       replace HBx:=Lib.hid (HBx.out.trans (hb.mono HBx.out.size))
       replace HGx:=Lib.hid (HGx.out.next hb)
       replace HT:=Lib.hid (HT.out.next hb)
       replace HSx:=Lib.hid (HSx.out.below hb)
       replace H1:=Lib.hid (H1.out.below hb)
       clear hb
       refine hK.out _ _ ⟨HT.out.box.cell (j:=0) rfl,HT.out.box.cell (j:=1) rfl,HT.out.box.cell (j:=2) rfl,HT.out.box.cell (j:=3) rfl,HT.out.box.cell (j:=4) rfl,HT.out.box.cell (j:=5) rfl,HT.out.box.cell (j:=6) rfl,HGx.out.box.cell (j:=0) rfl,HGx.out.box.cell (j:=1) rfl,HGx.out.box.cell (j:=2) rfl,HGx.out.box.cell (j:=3) rfl,HGx.out.box.cell (j:=4) rfl,HGx.out.box.cell (j:=5) rfl,HGx.out.box.cell (j:=6) rfl⟩ ?_
       clear hK K
       refine tkq 4 ?_
       refine tkq 5 ?_
       refine soq 9 (fun K hK=> ?_)
       go_simp
       go_at_call 17
       with_reducible refine(HOS.out v1 HSx.out).mono ?_
       rintro e v2 ⟨rfl,hb⟩
       replace HBx:=Lib.hid (HBx.out.trans (hb.mono HBx.out.size))
       replace HGx:=Lib.hid (HGx.out.next hb)
       replace HT:=Lib.hid (HT.out.next hb)
       replace HSx:=Lib.hid (HSx.out.below hb)
       replace H1:=Lib.hid (H1.out.below hb)
       clear hb
       refine hK.out _ _ ⟨HT.out.box.cell (j:=0) rfl,HT.out.box.cell (j:=1) rfl,HT.out.box.cell (j:=2) rfl,HT.out.box.cell (j:=3) rfl,HT.out.box.cell (j:=4) rfl,HT.out.box.cell (j:=5) rfl,HT.out.box.cell (j:=6) rfl,HGx.out.box.cell (j:=0) rfl,HGx.out.box.cell (j:=1) rfl,HGx.out.box.cell (j:=2) rfl,HGx.out.box.cell (j:=3) rfl,HGx.out.box.cell (j:=4) rfl,HGx.out.box.cell (j:=5) rfl,HGx.out.box.cell (j:=6) rfl⟩ ?_
       clear hK K
       refine tkq 10 ?_
       refine tkq 11 ?_
       refine tkq 15 ?_
       refine tkq 16 ?_
       refine sdq ?_
       go_wp2_with(first|((with_reducible refine at_load 27 (.tmp 9) ?_);refine wpList_load_as laySt rfl (.tmp 9) rfl w5.heap.size 0 rfl ⟨y1,y2,y3,⟨ya1,yn1,yc1⟩,⟨ya2,yn2,yc2⟩,⟨ya3,yn3,yc3⟩,⟨ya4,yn4,yc4⟩⟩ (Raw.agg ⟨y1,y2,y3,⟨ya1,yn1,yc1⟩,⟨ya2,yn2,yc2⟩,⟨ya3,yn3,yc3⟩,⟨ya4,yn4,yc4⟩⟩) rfl HT.out.box.range ?_)|((with_reducible refine at_store 27 (.tmp 3) (.tmp 114) ?_);refine wpList_store_bex laySt rfl (.tmp 3) (.tmp 114) rfl w.heap.size ⟨y1,y2,y3,⟨ya1,yn1,yc1⟩,⟨ya2,yn2,yc2⟩,⟨ya3,yn3,yc3⟩,⟨ya4,yn4,yc4⟩⟩ _ rfl rfl HGx.out rfl ?_;intro v3 hx hw;replace H1:=Lib.hid (H1.out.wrote HGx.out (misfits_st _) hw);replace HBx:=Lib.hid (HBx.out.trans (hw.below _ (Nat.le_refl _)));replace HGx:=Lib.hid hx;clear hx hw))
       exact⟨⟨k+1,⟨y1,y2,y3,⟨ya1,yn1,yc1⟩,⟨ya2,yn2,yc2⟩,⟨ya3,yn3,yc3⟩,⟨ya4,yn4,yc4⟩⟩,by omega,by go_num,HGx,by rw[HSTK.out];exact H1,HBx⟩,by simp[intOf];omega⟩
   ·obtain rfl:k= es.length:=by omega
    go_wp2_with(go_at_call 9;((with_reducible refine(wakes19 _).mono ?_);rintro e wk ⟨rfl,hb⟩;replace HBx:=Lib.hid (HBx.out.trans (hb.mono HBx.out.size));clear hb))
    go_returns
    exact⟨rfl,HBx.out⟩
theorem law_scap (s:St) (r:Raw) (es:List RwE) (a:Option Addr) (n c:Nat) (id:Int) (w:World) (h:StAt w 0 r s) (hi:InI s.stamp) (hl1:s.tens.length≤ 1000000000000000) (hl2:s.leas.length≤ 1000000000000000) (hl3:s.sess.length≤ 1000000000000000) (hl4:s.dsks.length≤ 1000000000000000)
 (hn:es.length= n) (hln:n≤ 1000000000000000) (hes:∀y∈ es,RowB w y.2.1 y.1.data∧y.1.data.length≤ y.2.2∧y.1.data.length≤ 1000000000000000∧InI y.1.stamp) (hr:LRow layRw w a es) (_:(Lit.int .i64 id).wf=true):
 Calls Tryz.prog 4 #[r.agg,.slice a n c,.int .i64 id] w fun e w'=>e= .returned (.bool true)∧Below w.heap.size w w':=by
 cases hok:stateOk s with
 |false=> exact scap_bad s r es a n c id w h hi hl1 hl2 hl3 hl4 hn hln hes hr hok
 |true=> exact scap_good s r es a n c id w h hi hl1 hl2 hl3 hl4 hn hln hes hr hok
end Go.Proofs.YtfdmhpohfjbpfaaGreat
