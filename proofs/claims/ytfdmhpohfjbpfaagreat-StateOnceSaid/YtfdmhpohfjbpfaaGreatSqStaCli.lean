import Derived.Test.YtfdmhpohfjbpfaaGreatSq13
set_option linter.unusedVariables false
set_option linter.unusedSimpArgs false
namespace Go.Proofs.YtfdmhpohfjbpfaaGreat
open Go.ChangeShapes Go.WideShapes Go.ChangeAt Go.RowKit
set_option maxRecDepth 100000
theorem clientC_err {f:St→ WCmd→St× Ans} {s:St} {c:WCmd} {a:Ans} {fr:Bool} {er:Int} (h:askS s.sess c.client c.number=(a,fr,er)) (he:er≠ 0):clientC f s c=(s,Ans.err er):=by unfold clientC;rw[h,if_pos he]
theorem clientC_old {f:St→ WCmd→St× Ans} {s:St} {c:WCmd} {a:Ans} (h:askS s.sess c.client c.number=(a,false,0)):clientC f s c=(s,a):=by unfold clientC;rw[h,if_neg (by simp),if_pos rfl]
theorem clientC_new {f:St→ WCmd→St× Ans} {s:St} {c:WCmd} {a:Ans} (h:askS s.sess c.client c.number=(a,true,0)):clientC f s c=keptC c (f s c):=by unfold clientC;rw[h,if_neg (by simp),if_neg (by simp)]
set_option maxHeartbeats 16000000 in
theorem way_client (F:FuncId) (f:St→ WCmd→St× Ans) (w0:World) (gd:Nat) (hd:Bex w0 gd [.func (.func F) #[] #[]]) (hent:∀args w,(callFunc F args).run Tryz.prog w= .ok (.enter F args) w) (hF:∀w0,Way F #[] f w0)
 (hses:∀s c,stateOk s=true→ (f s c).1.sess.length≤301):Way 112 #[.pointer (some ⟨gd,0,none⟩)] (clientC f) w0:=by
 intro s q c p gs gc w HG HST HC hne hok hgood hlen hw0
 have HD:=Lib.hid (hd.below hw0 hd.lt)
 have HENT:=Lib.hid hent
 have HWAY:Hid (∀(w':World) (q':Raw),Bex w' gs q'.cells→StAt w' 0 q' s→CmdAt w' gc c p→Calls Tryz.prog F #[.pointer (some ⟨gs,0,none⟩),.pointer (some ⟨gc,0,none⟩)] w' (WayPost w' gs (f s c))):=fun w' q' h1 h2 h3=>hF w' s q' c p gs gc w' h1 h2 h3 hne hok hgood hlen (Below.refl _ _)
 have HSES:=Lib.hid (hses s c hok)
 obtain⟨hsm1,hsm2,hsm3,hsm4⟩:=ok_small hok
 show Calls Tryz.prog 112 #[.pointer (some ⟨gs,0,none⟩),.pointer (some ⟨gc,0,none⟩),.pointer (some ⟨gd,0,none⟩)] w (WayPost w gs (clientC f s c))
 have hgs:=HG.lt
 have hgc:=HC.box.lt
 have hgd:gd< w.heap.size:=HD.out.lt
 obtain⟨t1,t2,t3,⟨a1,n1,c1⟩,⟨a2,n2,c2⟩,⟨a3,n3,c3⟩,⟨a4,n4,c4⟩⟩:=q
 have HGx:=Lib.hid (HG.next ((Below.refl w.heap.size w).alloc (Nat.le_refl _) (.cells #[.int .i64 0,.int .i64 0,.int .i64 0,.int .i64 0,.int .i64 0] 40)))
 have HC0:=Lib.hid HC
 have HBx:=Lib.hid ((Below.refl w.heap.size w).alloc (Nat.le_refl _) (.cells #[.int .i64 0,.int .i64 0,.int .i64 0,.int .i64 0,.int .i64 0] 40))
 have HSx:=Lib.hid (HST.below ((Below.refl w.heap.size w).alloc (Nat.le_refl _) (.cells #[.int .i64 0,.int .i64 0,.int .i64 0,.int .i64 0,.int .i64 0] 40)))
 have HDx:=Lib.hid (HD.out.next ((Below.refl w.heap.size w).alloc (Nat.le_refl _) (.cells #[.int .i64 0,.int .i64 0,.int .i64 0,.int .i64 0,.int .i64 0] 40)))
 have HAx:=Lib.hid (ans_new w)
 have HOx:=Lib.hid (Only.of (g:=gs) ((Below.refl w.heap.size w).alloc (Nat.le_refl _) (.cells #[.int .i64 0,.int .i64 0,.int .i64 0,.int .i64 0,.int .i64 0] 40)))
 have HERR:=Lib.hid (fun a fr er h he=> @clientC_err f s c a fr er h he)
 have HOLD:=Lib.hid (fun a h=> @clientC_old f s c a h)
 have HNEW:=Lib.hid (fun a h=> @clientC_new f s c a h)
 generalize clientC f s c=res at HERR HOLD HNEW ⊢
 rcases hask:askS s.sess c.client c.number with⟨⟨ae,ar,ab,al,az⟩,fr,er⟩
 have HASK:=Lib.hid hask
 clear HG HC HST HD hok hgood hask hses hF hd hent
 go_enter Tryz.func112,Tryz.ntmps112
 go_wp2
 obtain⟨w1,hw1⟩:∃x,x=w.alloc (.cells #[.int .i64 0,.int .i64 0,.int .i64 0,.int .i64 0,.int .i64 0] 40):=⟨_,rfl⟩
 rw[←hw1]at HGx HBx HSx HDx HAx HOx ⊢
 have hz1:w.heap.size< w1.heap.size:=by rw[hw1];simp
 clear hw1
 refine wrq (fun l w'=>(w'.cell? ⟨gs,5,none⟩=some (.slice a3 n3 c3)∧w'.cell? ⟨gc,1,none⟩=some (.int .i64 c.client)∧w'.cell? ⟨gc,2,none⟩=some (.int .i64 c.number))) ?_
 refine toS ⟨HGx.out.box.cell (j:=5) rfl,(HC0.out.next HBx.out).box.box.cell (j:=1) rfl,(HC0.out.next HBx.out).box.box.cell (j:=2) rfl⟩ ?_
 refine tkq 0 ?_
 refine tkq 1 ?_
 refine tkq 2 ?_
 refine tkq 3 ?_
 refine tkq 4 ?_
 refine tkq 5 ?_
 refine tkq 6 ?_
 refine tkq 7 ?_
 refine tkq 8 ?_
 refine tkq 9 ?_
 refine tkq 10 ?_
 refine tkq 11 ?_
 refine s2q 12 17 (fun K hK=> ?_) (fun K hK=> ?_)
 ·go_simp
  go_at_call 113
  with_reducible refine(ask_ses s.sess a3 n3 c3 c.client c.number w1.drew HSx.out.ses.len (by have:=HSx.out.ses.len;simp only at this;omega) (HSx.out.below ((Below.refl _ _).drew)).ses.row).mono ?_
  rw[HASK.out]
  rintro e wb ⟨rfl,hbz⟩
  have hb:Below w1.heap.size w1 wb:=⟨hbz.os,hbz.tape,hbz.output,hbz.size,hbz.block⟩
  replace HGx:=Lib.hid (HGx.out.next hb)
  replace HBx:=Lib.hid (HBx.out.trans (hb.mono HBx.out.size))
  replace HSx:=Lib.hid (HSx.out.below hb)
  replace HDx:=Lib.hid (HDx.out.next hb)
  replace HAx:=Lib.hid (HAx.out.next hb)
  replace HOx:=Lib.hid (HOx.out.next hb)
  have hzb:=hb.size
  clear hb hbz
  refine hK.out _ _ ⟨HGx.out.box.cell (j:=5) rfl,(HC0.out.next HBx.out).box.box.cell (j:=1) rfl,(HC0.out.next HBx.out).box.box.cell (j:=2) rfl⟩ ?_
  clear hK K
  refine tkq 13 ?_
  refine tkq 14 ?_
  refine tkq 15 ?_
  refine tkq 16 ?_
  refine soq 17 (fun K hK=> ?_)
  go_simp
  obtain⟨wa,hwa⟩:∃x,x=wb.alloc (.cells #[.int .i64 0,.int .i64 0,.int .i64 0,.int .i64 0,.int .i64 0] 40):=⟨_,rfl⟩
  rw[←hwa]
  have hb:Below wb.heap.size wb wa:=by rw[hwa];exact(Below.refl _ _).alloc (Nat.le_refl _) _
  have HB6:Hid (Bex wa wb.heap.size zAns.cells):=by rw[hwa];exact ans_new wb
  replace HGx:=Lib.hid (HGx.out.next hb)
  replace HBx:=Lib.hid (HBx.out.trans (hb.mono HBx.out.size))
  replace HSx:=Lib.hid (HSx.out.below hb)
  replace HDx:=Lib.hid (HDx.out.next hb)
  replace HAx:=Lib.hid (HAx.out.next hb)
  replace HOx:=Lib.hid (HOx.out.next hb)
  have hza:wb.heap.size< wa.heap.size:=HB6.out.lt
  clear hb hwa
  refine hK.out _ _ ⟨HGx.out.box.cell (j:=5) rfl,(HC0.out.next HBx.out).box.box.cell (j:=1) rfl,(HC0.out.next HBx.out).box.box.cell (j:=2) rfl⟩ ?_
  clear hK K
  refine soq 18 (fun K hK=> ?_)
  rw[if_pos (by rfl)]
  refine op_store_bex layAns (.tmp 6) (.tmp 23) rfl wb.heap.size ⟨ae,ar,ab,al,az⟩ _ rfl rfl HB6.out rfl ?_
  intro wd hx hw
  obtain⟨g6,hg6⟩:∃x,x=wb.heap.size:= ⟨_,rfl⟩
  rw[←hg6]at hx hw ⊢
  have h6:w.heap.size< g6:=by omega
  replace HGx:=Lib.hid (HGx.out.wrote hw (by omega))
  replace HSx:=Lib.hid (HSx.out.wrote (by rw[hg6];exact HB6.out) (misfits_ans _) hw)
  replace HDx:=Lib.hid (HDx.out.wrote hw (by omega))
  replace HAx:=Lib.hid (HAx.out.wrote hw (by omega))
  replace HOx:=Lib.hid (HOx.out.wroteNew hw (by omega))
  replace HBx:=Lib.hid (HBx.out.trans (hw.below _ (by omega)))
  replace HB6:=Lib.hid hx
  clear hx hw hg6 hza hzb hz1
  refine hK.out _ _ ⟨HGx.out.box.cell (j:=5) rfl,(HC0.out.next HBx.out).box.box.cell (j:=1) rfl,(HC0.out.next HBx.out).box.box.cell (j:=2) rfl⟩ ?_
  clear hK K
  refine tkq 19 ?_
  refine tkq 20 ?_
  refine sdq ?_
  by_cases her:er= 0
  ·subst her
   cases fr with
   |false=>
    have HQ:=Lib.hid (HOLD.out _ HASK.out)
    go_wp2_with(first|((with_reducible refine at_load 40 (.tmp 6) ?_);refine wpList_load_as layAns rfl (.tmp 6) rfl g6 0 rfl ⟨ae,ar,ab,al,az⟩ (Ans.agg ⟨ae,ar,ab,al,az⟩) rfl HB6.out.box.range ?_)|((with_reducible refine at_store 40 (.tmp 5) (.tmp 34) ?_);refine wpList_store_bex layAns rfl (.tmp 5) (.tmp 34) rfl w.heap.size ⟨ae,ar,ab,al,az⟩ _ rfl rfl HAx.out rfl ?_;intro wz hxz hwz;have HXZ:=Lib.hid hxz;have HWZ:=Lib.hid hwz;clear hxz hwz))
    obtain⟨j0,j1,j2,j3,j4⟩:=ans_cells HXZ.out
    refine bodyPost_ret (v:=Ans.agg (⟨ae,ar,ab,al,az⟩)) (by simp[results,Tryz.results112,Ans.err,go_sem,j0,j1,j2,j3,j4]) rfl ?_
    rw[HQ.out]
    exact⟨rfl,_,HGx.out.wrote HWZ.out (by omega),HSx.out.wrote HAx.out (misfits_ans _) HWZ.out,HOx.out.wroteNew HWZ.out (Nat.le_refl _)⟩
   |true=>
    have HQ0:=Lib.hid (HNEW.out _ HASK.out)
    have hent:=HENT.out
    have hdo:wd.cell? ⟨gd,0,none⟩=some (.func (.func F) #[] #[]):=HDx.out.box.cell (j:=0) rfl
    go_upto_region 7 with(first|((with_reducible refine(HWAY.out _ _ HGx.out HSx.out (HC0.out.next HBx.out)).mono ?_);rintro e we ⟨rfl,q2,hg2,hs2,ho2⟩;obtain⟨u1,u2,u3,⟨b1,m1,d1⟩,⟨b2,m2,d2⟩,⟨b3,m3,d3⟩,⟨b4,m4,d4⟩⟩:=q2;have HCx:=Lib.hid ((HC0.out.next HBx.out).box.only ho2 (fun e=>hne e.symm));have hze:=ho2.size;replace HGx:=Lib.hid hg2;replace HSx:=Lib.hid hs2;replace HAx:=Lib.hid (HAx.out.only ho2 (by omega));replace HB6:=Lib.hid (HB6.out.only ho2 (by omega));replace HOx:=Lib.hid (HOx.out.trans ho2);clear hg2 hs2 ho2 hdo HDx;generalize f s c=fr at HQ0 HSES HSx ⊢;obtain⟨rs,⟨be,br,bb,bl,bz⟩⟩:=fr)|((with_reducible refine at_store 40 (.tmp 6) (.tmp 38) ?_);refine wpList_store_bex layAns rfl (.tmp 6) (.tmp 38) rfl g6 ⟨be,br,bb,bl,bz⟩ _ rfl rfl HB6.out rfl ?_;intro wf hx hw;replace HGx:=Lib.hid (HGx.out.wrote hw (by omega));replace HCx:=Lib.hid (HCx.out.wrote hw (by omega));replace HSx:=Lib.hid (HSx.out.wrote HB6.out (misfits_ans _) hw);replace HAx:=Lib.hid (HAx.out.wrote hw (by omega));replace HOx:=Lib.hid (HOx.out.wroteNew hw (by omega));replace HB6:=Lib.hid hx;clear hx hw))
    simp only[Act.put]
    refine wrq (fun l w'=>(w'.cell? ⟨gc,1,none⟩=some (.int .i64 c.client)∧w'.cell? ⟨gc,2,none⟩=some (.int .i64 c.number)∧w'.cell? ⟨g6,0,none⟩=some (.int .i64 be)∧w'.cell? ⟨g6,1,none⟩=some (.int .i64 br)∧w'.cell? ⟨g6,2,none⟩=some (.int .i64 bb)∧w'.cell? ⟨g6,3,none⟩=some (.int .i64 bl)∧w'.cell? ⟨g6,4,none⟩=some (.int .i64 bz))∧Till 20 l (w'.cell? ⟨gs,5,none⟩=some (.slice b3 m3 d3))) ?_
    refine toS ⟨⟨HCx.out.box.cell (j:=1) rfl,HCx.out.box.cell (j:=2) rfl,HB6.out.box.cell (j:=0) rfl,HB6.out.box.cell (j:=1) rfl,HB6.out.box.cell (j:=2) rfl,HB6.out.box.cell (j:=3) rfl,HB6.out.box.cell (j:=4) rfl⟩,fun _=>HGx.out.box.cell (j:=5) rfl⟩ ?_
    refine ttq [] 0 ?_
    refine ttq [] 1 ?_
    refine ttq [] 2 ?_
    refine ttq [] 3 ?_
    refine ttq [20] 4 ?_
    refine ttq [] 5 ?_
    refine ttq [] 6 ?_
    refine ttq [] 7 ?_
    refine ttq [20] 8 ?_
    refine ttq [] 9 ?_
    refine ttq [] 10 ?_
    refine ttq [] 11 ?_
    refine ttq [20] 12 ?_
    refine ttq [20] 13 ?_
    refine soq 14 (fun K hK=> ?_)
    go_simp
    go_at_call 114
    with_reducible refine(keep_ses rs.sess b3 m3 d3 c.client c.number ⟨be,br,bb,bl,bz⟩ wf.drew HSx.out.ses.len (by have:=HSx.out.ses.len;have h:=HSES.out;simp only at this h;omega) HSx.out.ses.nil HSx.out.ses.le (HSx.out.below ((Below.refl _ _).drew)).ses.row).mono ?_
    rintro e wg ⟨x1,y1,rfl,hle,hmx,hnil,hrow,hbz⟩
    have hb:Below wf.heap.size wf wg:=⟨hbz.os,hbz.tape,hbz.output,hbz.size,hbz.block⟩
    have K3:=Lib.hid (And.intro hle (And.intro hnil hrow))
    replace HGx:=Lib.hid (HGx.out.next hb)
    replace HCx:=Lib.hid (HCx.out.next hb)
    replace HSx:=Lib.hid (HSx.out.below hb)
    replace HAx:=Lib.hid (HAx.out.next hb)
    replace HB6:=Lib.hid (HB6.out.next hb)
    replace HOx:=Lib.hid (HOx.out.next hb)
    clear hb hbz hle hmx hnil hrow
    have HQ:Hid (res=({rs with sess:=(keepS rs.sess c.client c.number ⟨be,br,bb,bl,bz⟩).1},⟨be,br,bb,bl,bz⟩)):=HQ0.out
    generalize keepS rs.sess c.client c.number ⟨be,br,bb,bl,bz⟩=kp at K3 HQ ⊢
    obtain⟨kl,ke⟩:=kp
    refine hK.out _ _ ⟨⟨HCx.out.box.cell (j:=1) rfl,HCx.out.box.cell (j:=2) rfl,HB6.out.box.cell (j:=0) rfl,HB6.out.box.cell (j:=1) rfl,HB6.out.box.cell (j:=2) rfl,HB6.out.box.cell (j:=3) rfl,HB6.out.box.cell (j:=4) rfl⟩,fun _=>HGx.out.box.cell (j:=5) rfl⟩ ?_
    clear hK K
    refine ttq [] 15 ?_
    refine ttq [] 16 ?_
    refine ttq [] 17 ?_
    refine ttq [] 18 ?_
    refine ttq [] 19 ?_
    refine soq 20 (fun K hK=> ?_)
    rw[if_pos (by rfl)]
    refine op_field_bex (.tmp 58) (.tmp 55) rfl size1_fields.1 gs 5 _ (.slice x1 kl.length y1) rfl rfl rfl rfl HGx.out (show 5<7 by decide) ?_
    intro wh hx hw
    have hgs2:gs< wg.heap.size:=HGx.out.lt
    replace HSx:Hid (StAt wh 0 ⟨u1,u2,u3,⟨b1,m1,d1⟩,⟨b2,m2,d2⟩,⟨x1,kl.length,y1⟩,⟨b4,m4,d4⟩⟩ {rs with sess:=kl}):=put_sess HSx.out HGx.out hw K3.out.1 K3.out.2.1 K3.out.2.2
    replace HGx:Hid (Bex wh gs (Raw.cells ⟨u1,u2,u3,⟨b1,m1,d1⟩,⟨b2,m2,d2⟩,⟨x1,kl.length,y1⟩,⟨b4,m4,d4⟩⟩)):=hx
    replace HCx:=Lib.hid (HCx.out.wrote hw (fun e=>hne e.symm))
    replace HAx:=Lib.hid (HAx.out.wrote hw (by omega))
    replace HB6:=Lib.hid (HB6.out.wrote hw (by omega))
    replace HOx:=Lib.hid (HOx.out.wrote hw)
    clear hx hw
    refine hK.out _ _ ⟨⟨HCx.out.box.cell (j:=1) rfl,HCx.out.box.cell (j:=2) rfl,HB6.out.box.cell (j:=0) rfl,HB6.out.box.cell (j:=1) rfl,HB6.out.box.cell (j:=2) rfl,HB6.out.box.cell (j:=3) rfl,HB6.out.box.cell (j:=4) rfl⟩,fun h=>absurd h (by decide)⟩ ?_
    clear hK K
    refine sdq ?_
    go_wp2_with(first|((with_reducible refine at_load 40 (.tmp 6) ?_);refine wpList_load_as layAns rfl (.tmp 6) rfl g6 0 rfl ⟨be,br,bb,bl,bz⟩ (Ans.agg ⟨be,br,bb,bl,bz⟩) rfl HB6.out.box.range ?_)|((with_reducible refine at_store 40 (.tmp 5) (.tmp 59) ?_);refine wpList_store_bex layAns rfl (.tmp 5) (.tmp 59) rfl w.heap.size ⟨be,br,bb,bl,bz⟩ _ rfl rfl HAx.out rfl ?_;intro wz hxz hwz;have HXZ:=Lib.hid hxz;have HWZ:=Lib.hid hwz;clear hxz hwz))
    obtain⟨j0,j1,j2,j3,j4⟩:=ans_cells HXZ.out
    refine bodyPost_ret (v:=Ans.agg (⟨be,br,bb,bl,bz⟩)) (by simp[results,Tryz.results112,Ans.err,go_sem,j0,j1,j2,j3,j4]) rfl ?_
    rw[HQ.out]
    exact⟨rfl,_,HGx.out.wrote HWZ.out (by omega),HSx.out.wrote HAx.out (misfits_ans _) HWZ.out,HOx.out.wroteNew HWZ.out (Nat.le_refl _)⟩
  ·have HQ:=Lib.hid (HERR.out _ _ _ HASK.out her)
   have hb0:(er !=0)=true:= by simpa using her
   go_wp2_with((with_reducible refine at_store 40 (.tmp 5) (.tmp 30) ?_);refine wpList_store_bex layAns rfl (.tmp 5) (.tmp 30) rfl w.heap.size (Ans.err er) _ rfl rfl HAx.out rfl ?_;intro wz hxz hwz;have HXZ:=Lib.hid hxz;have HWZ:=Lib.hid hwz;clear hxz hwz)
   obtain⟨j0,j1,j2,j3,j4⟩:=ans_cells HXZ.out
   refine bodyPost_ret (v:=Ans.agg (Ans.err er)) (by simp[results,Tryz.results112,Ans.err,go_sem,j0,j1,j2,j3,j4]) rfl ?_
   rw[HQ.out]
   exact⟨rfl,_,HGx.out.wrote HWZ.out (by omega),HSx.out.wrote HAx.out (misfits_ans _) HWZ.out,HOx.out.wroteNew HWZ.out (Nat.le_refl _)⟩
 ·go_simp
  obtain⟨wa,hwa⟩:∃x,x=(w1.alloc (.cells #[.int .i64 0,.int .i64 0,.int .i64 0,.int .i64 0,.int .i64 0] 40)).drew:=⟨_,rfl⟩
  rw[←hwa]
  have hb:Below w1.heap.size w1 wa:=by rw[hwa];exact((Below.refl _ _).alloc (Nat.le_refl _) _).drew
  have HB6:Hid (Bex wa w1.heap.size zAns.cells):=by rw[hwa];exact(ans_new w1).drew
  replace HGx:=Lib.hid (HGx.out.next hb)
  replace HBx:=Lib.hid (HBx.out.trans (hb.mono HBx.out.size))
  replace HSx:=Lib.hid (HSx.out.below hb)
  replace HDx:=Lib.hid (HDx.out.next hb)
  replace HAx:=Lib.hid (HAx.out.next hb)
  replace HOx:=Lib.hid (HOx.out.next hb)
  have hza:w1.heap.size< wa.heap.size:=HB6.out.lt
  clear hb hwa
  refine hK.out _ _ ⟨HGx.out.box.cell (j:=5) rfl,(HC0.out.next HBx.out).box.box.cell (j:=1) rfl,(HC0.out.next HBx.out).box.box.cell (j:=2) rfl⟩ ?_
  clear hK K
  refine soq 12 (fun K hK=> ?_)
  go_simp
  go_at_call 113
  with_reducible refine(ask_ses s.sess a3 n3 c3 c.client c.number wa HSx.out.ses.len (by have:=HSx.out.ses.len;simp only at this;omega) HSx.out.ses.row).mono ?_
  rw[HASK.out]
  rintro e wb ⟨rfl,hbz⟩
  have hb:Below wa.heap.size wa wb:=⟨hbz.os,hbz.tape,hbz.output,hbz.size,hbz.block⟩
  replace HB6:=Lib.hid (HB6.out.next hb)
  replace HGx:=Lib.hid (HGx.out.next hb)
  replace HBx:=Lib.hid (HBx.out.trans (hb.mono HBx.out.size))
  replace HSx:=Lib.hid (HSx.out.below hb)
  replace HDx:=Lib.hid (HDx.out.next hb)
  replace HAx:=Lib.hid (HAx.out.next hb)
  replace HOx:=Lib.hid (HOx.out.next hb)
  have hzb:=hb.size
  clear hb hbz
  refine hK.out _ _ ⟨HGx.out.box.cell (j:=5) rfl,(HC0.out.next HBx.out).box.box.cell (j:=1) rfl,(HC0.out.next HBx.out).box.box.cell (j:=2) rfl⟩ ?_
  clear hK K
  refine tkq 13 ?_
  refine tkq 14 ?_
  refine tkq 15 ?_
  refine tkq 16 ?_
  refine soq 18 (fun K hK=> ?_)
  rw[if_pos (by rfl)]
  refine op_store_bex layAns (.tmp 6) (.tmp 23) rfl w1.heap.size ⟨ae,ar,ab,al,az⟩ _ rfl rfl HB6.out rfl ?_
  intro wd hx hw
  obtain⟨g6,hg6⟩:∃x,x=w1.heap.size:= ⟨_,rfl⟩
  rw[←hg6]at hx hw ⊢
  have h6:w.heap.size< g6:=by omega
  replace HGx:=Lib.hid (HGx.out.wrote hw (by omega))
  replace HSx:=Lib.hid (HSx.out.wrote (by rw[hg6];exact HB6.out) (misfits_ans _) hw)
  replace HDx:=Lib.hid (HDx.out.wrote hw (by omega))
  replace HAx:=Lib.hid (HAx.out.wrote hw (by omega))
  replace HOx:=Lib.hid (HOx.out.wroteNew hw (by omega))
  replace HBx:=Lib.hid (HBx.out.trans (hw.below _ (by omega)))
  replace HB6:=Lib.hid hx
  clear hx hw hg6 hza hzb hz1
  refine hK.out _ _ ⟨HGx.out.box.cell (j:=5) rfl,(HC0.out.next HBx.out).box.box.cell (j:=1) rfl,(HC0.out.next HBx.out).box.box.cell (j:=2) rfl⟩ ?_
  clear hK K
  refine tkq 19 ?_
  refine tkq 20 ?_
  refine sdq ?_
  by_cases her:er= 0
  ·subst her
   cases fr with
   |false=>
    have HQ:=Lib.hid (HOLD.out _ HASK.out)
    go_wp2_with(first|((with_reducible refine at_load 40 (.tmp 6) ?_);refine wpList_load_as layAns rfl (.tmp 6) rfl g6 0 rfl ⟨ae,ar,ab,al,az⟩ (Ans.agg ⟨ae,ar,ab,al,az⟩) rfl HB6.out.box.range ?_)|((with_reducible refine at_store 40 (.tmp 5) (.tmp 34) ?_);refine wpList_store_bex layAns rfl (.tmp 5) (.tmp 34) rfl w.heap.size ⟨ae,ar,ab,al,az⟩ _ rfl rfl HAx.out rfl ?_;intro wz hxz hwz;have HXZ:=Lib.hid hxz;have HWZ:=Lib.hid hwz;clear hxz hwz))
    obtain⟨j0,j1,j2,j3,j4⟩:=ans_cells HXZ.out
    refine bodyPost_ret (v:=Ans.agg (⟨ae,ar,ab,al,az⟩)) (by simp[results,Tryz.results112,Ans.err,go_sem,j0,j1,j2,j3,j4]) rfl ?_
    rw[HQ.out]
    exact⟨rfl,_,HGx.out.wrote HWZ.out (by omega),HSx.out.wrote HAx.out (misfits_ans _) HWZ.out,HOx.out.wroteNew HWZ.out (Nat.le_refl _)⟩
   |true=>
    have HQ0:=Lib.hid (HNEW.out _ HASK.out)
    have hent:=HENT.out
    have hdo:wd.cell? ⟨gd,0,none⟩=some (.func (.func F) #[] #[]):=HDx.out.box.cell (j:=0) rfl
    go_upto_region 7 with(first|((with_reducible refine(HWAY.out _ _ HGx.out HSx.out (HC0.out.next HBx.out)).mono ?_);rintro e we ⟨rfl,q2,hg2,hs2,ho2⟩;obtain⟨u1,u2,u3,⟨b1,m1,d1⟩,⟨b2,m2,d2⟩,⟨b3,m3,d3⟩,⟨b4,m4,d4⟩⟩:=q2;have HCx:=Lib.hid ((HC0.out.next HBx.out).box.only ho2 (fun e=>hne e.symm));have hze:=ho2.size;replace HGx:=Lib.hid hg2;replace HSx:=Lib.hid hs2;replace HAx:=Lib.hid (HAx.out.only ho2 (by omega));replace HB6:=Lib.hid (HB6.out.only ho2 (by omega));replace HOx:=Lib.hid (HOx.out.trans ho2);clear hg2 hs2 ho2 hdo HDx;generalize f s c=fr at HQ0 HSES HSx ⊢;obtain⟨rs,⟨be,br,bb,bl,bz⟩⟩:=fr)|((with_reducible refine at_store 40 (.tmp 6) (.tmp 38) ?_);refine wpList_store_bex layAns rfl (.tmp 6) (.tmp 38) rfl g6 ⟨be,br,bb,bl,bz⟩ _ rfl rfl HB6.out rfl ?_;intro wf hx hw;replace HGx:=Lib.hid (HGx.out.wrote hw (by omega));replace HCx:=Lib.hid (HCx.out.wrote hw (by omega));replace HSx:=Lib.hid (HSx.out.wrote HB6.out (misfits_ans _) hw);replace HAx:=Lib.hid (HAx.out.wrote hw (by omega));replace HOx:=Lib.hid (HOx.out.wroteNew hw (by omega));replace HB6:=Lib.hid hx;clear hx hw))
    simp only[Act.put]
    refine wrq (fun l w'=>(w'.cell? ⟨gc,1,none⟩=some (.int .i64 c.client)∧w'.cell? ⟨gc,2,none⟩=some (.int .i64 c.number)∧w'.cell? ⟨g6,0,none⟩=some (.int .i64 be)∧w'.cell? ⟨g6,1,none⟩=some (.int .i64 br)∧w'.cell? ⟨g6,2,none⟩=some (.int .i64 bb)∧w'.cell? ⟨g6,3,none⟩=some (.int .i64 bl)∧w'.cell? ⟨g6,4,none⟩=some (.int .i64 bz))∧Till 20 l (w'.cell? ⟨gs,5,none⟩=some (.slice b3 m3 d3))) ?_
    refine toS ⟨⟨HCx.out.box.cell (j:=1) rfl,HCx.out.box.cell (j:=2) rfl,HB6.out.box.cell (j:=0) rfl,HB6.out.box.cell (j:=1) rfl,HB6.out.box.cell (j:=2) rfl,HB6.out.box.cell (j:=3) rfl,HB6.out.box.cell (j:=4) rfl⟩,fun _=>HGx.out.box.cell (j:=5) rfl⟩ ?_
    refine ttq [] 0 ?_
    refine ttq [] 1 ?_
    refine ttq [] 2 ?_
    refine ttq [] 3 ?_
    refine ttq [20] 4 ?_
    refine ttq [] 5 ?_
    refine ttq [] 6 ?_
    refine ttq [] 7 ?_
    refine ttq [20] 8 ?_
    refine ttq [] 9 ?_
    refine ttq [] 10 ?_
    refine ttq [] 11 ?_
    refine ttq [20] 12 ?_
    refine ttq [20] 13 ?_
    refine soq 14 (fun K hK=> ?_)
    go_simp
    go_at_call 114
    with_reducible refine(keep_ses rs.sess b3 m3 d3 c.client c.number ⟨be,br,bb,bl,bz⟩ wf.drew HSx.out.ses.len (by have:=HSx.out.ses.len;have h:=HSES.out;simp only at this h;omega) HSx.out.ses.nil HSx.out.ses.le (HSx.out.below ((Below.refl _ _).drew)).ses.row).mono ?_
    rintro e wg ⟨x1,y1,rfl,hle,hmx,hnil,hrow,hbz⟩
    have hb:Below wf.heap.size wf wg:=⟨hbz.os,hbz.tape,hbz.output,hbz.size,hbz.block⟩
    have K3:=Lib.hid (And.intro hle (And.intro hnil hrow))
    replace HGx:=Lib.hid (HGx.out.next hb)
    replace HCx:=Lib.hid (HCx.out.next hb)
    replace HSx:=Lib.hid (HSx.out.below hb)
    replace HAx:=Lib.hid (HAx.out.next hb)
    replace HB6:=Lib.hid (HB6.out.next hb)
    replace HOx:=Lib.hid (HOx.out.next hb)
    clear hb hbz hle hmx hnil hrow
    have HQ:Hid (res=({rs with sess:=(keepS rs.sess c.client c.number ⟨be,br,bb,bl,bz⟩).1},⟨be,br,bb,bl,bz⟩)):=HQ0.out
    generalize keepS rs.sess c.client c.number ⟨be,br,bb,bl,bz⟩=kp at K3 HQ ⊢
    obtain⟨kl,ke⟩:=kp
    refine hK.out _ _ ⟨⟨HCx.out.box.cell (j:=1) rfl,HCx.out.box.cell (j:=2) rfl,HB6.out.box.cell (j:=0) rfl,HB6.out.box.cell (j:=1) rfl,HB6.out.box.cell (j:=2) rfl,HB6.out.box.cell (j:=3) rfl,HB6.out.box.cell (j:=4) rfl⟩,fun _=>HGx.out.box.cell (j:=5) rfl⟩ ?_
    clear hK K
    refine ttq [] 15 ?_
    refine ttq [] 16 ?_
    refine ttq [] 17 ?_
    refine ttq [] 18 ?_
    refine ttq [] 19 ?_
    refine soq 20 (fun K hK=> ?_)
    rw[if_pos (by rfl)]
    refine op_field_bex (.tmp 58) (.tmp 55) rfl size1_fields.1 gs 5 _ (.slice x1 kl.length y1) rfl rfl rfl rfl HGx.out (show 5<7 by decide) ?_
    intro wh hx hw
    have hgs2:gs< wg.heap.size:=HGx.out.lt
    replace HSx:Hid (StAt wh 0 ⟨u1,u2,u3,⟨b1,m1,d1⟩,⟨b2,m2,d2⟩,⟨x1,kl.length,y1⟩,⟨b4,m4,d4⟩⟩ {rs with sess:=kl}):=put_sess HSx.out HGx.out hw K3.out.1 K3.out.2.1 K3.out.2.2
    replace HGx:Hid (Bex wh gs (Raw.cells ⟨u1,u2,u3,⟨b1,m1,d1⟩,⟨b2,m2,d2⟩,⟨x1,kl.length,y1⟩,⟨b4,m4,d4⟩⟩)):=hx
    replace HCx:=Lib.hid (HCx.out.wrote hw (fun e=>hne e.symm))
    replace HAx:=Lib.hid (HAx.out.wrote hw (by omega))
    replace HB6:=Lib.hid (HB6.out.wrote hw (by omega))
    replace HOx:=Lib.hid (HOx.out.wrote hw)
    clear hx hw
    refine hK.out _ _ ⟨⟨HCx.out.box.cell (j:=1) rfl,HCx.out.box.cell (j:=2) rfl,HB6.out.box.cell (j:=0) rfl,HB6.out.box.cell (j:=1) rfl,HB6.out.box.cell (j:=2) rfl,HB6.out.box.cell (j:=3) rfl,HB6.out.box.cell (j:=4) rfl⟩,fun h=>absurd h (by decide)⟩ ?_
    clear hK K
    refine sdq ?_
    go_wp2_with(first|((with_reducible refine at_load 40 (.tmp 6) ?_);refine wpList_load_as layAns rfl (.tmp 6) rfl g6 0 rfl ⟨be,br,bb,bl,bz⟩ (Ans.agg ⟨be,br,bb,bl,bz⟩) rfl HB6.out.box.range ?_)|((with_reducible refine at_store 40 (.tmp 5) (.tmp 59) ?_);refine wpList_store_bex layAns rfl (.tmp 5) (.tmp 59) rfl w.heap.size ⟨be,br,bb,bl,bz⟩ _ rfl rfl HAx.out rfl ?_;intro wz hxz hwz;have HXZ:=Lib.hid hxz;have HWZ:=Lib.hid hwz;clear hxz hwz))
    obtain⟨j0,j1,j2,j3,j4⟩:=ans_cells HXZ.out
    refine bodyPost_ret (v:=Ans.agg (⟨be,br,bb,bl,bz⟩)) (by simp[results,Tryz.results112,Ans.err,go_sem,j0,j1,j2,j3,j4]) rfl ?_
    rw[HQ.out]
    exact⟨rfl,_,HGx.out.wrote HWZ.out (by omega),HSx.out.wrote HAx.out (misfits_ans _) HWZ.out,HOx.out.wroteNew HWZ.out (Nat.le_refl _)⟩
  ·have HQ:=Lib.hid (HERR.out _ _ _ HASK.out her)
   have hb0:(er !=0)=true:= by simpa using her
   go_wp2_with((with_reducible refine at_store 40 (.tmp 5) (.tmp 30) ?_);refine wpList_store_bex layAns rfl (.tmp 5) (.tmp 30) rfl w.heap.size (Ans.err er) _ rfl rfl HAx.out rfl ?_;intro wz hxz hwz;have HXZ:=Lib.hid hxz;have HWZ:=Lib.hid hwz;clear hxz hwz)
   obtain⟨j0,j1,j2,j3,j4⟩:=ans_cells HXZ.out
   refine bodyPost_ret (v:=Ans.agg (Ans.err er)) (by simp[results,Tryz.results112,Ans.err,go_sem,j0,j1,j2,j3,j4]) rfl ?_
   rw[HQ.out]
   exact⟨rfl,_,HGx.out.wrote HWZ.out (by omega),HSx.out.wrote HAx.out (misfits_ans _) HWZ.out,HOx.out.wroteNew HWZ.out (Nat.le_refl _)⟩
end Go.Proofs.YtfdmhpohfjbpfaaGreat
