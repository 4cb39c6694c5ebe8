import Derived.Test.YtfdmhpohfjbpfaaGreatSq16
set_option linter.unusedVariables false
set_option linter.unusedSimpArgs false
namespace Go.Proofs.YtfdmhpohfjbpfaaGreat
open Go.ChangeShapes Go.WideShapes Go.ChangeAt Go.RowKit
set_option maxRecDepth 100000
theorem Near.apart {w w7:World} {B:Nat} {a a7:Option Addr} {xs ys:List Value} (hr:Row w a xs) (hnear:Near B a a7) (hB:w.heap.size< B) (hys:xs= []→ys= []) (hr7:Row w7 a7 ys) (v0 v1 v2 v3 v4:Value):
 Row (((((w7.setCell ⟨w.heap.size,0,none⟩ v0).setCell ⟨w.heap.size,1,none⟩ v1).setCell ⟨w.heap.size,2,none⟩ v2).setCell ⟨w.heap.size,3,none⟩ v3).setCell ⟨w.heap.size,4,none⟩ v4) a7 ys:=by
 by_cases h0:xs= []
 ·exact .inl (hys h0)
 ·refine Row.set5 hr7 (fun b o s ha=> ?_) _ _ _ _ _
  rcases hnear b o s ha with h|⟨o',s',h⟩
  ·omega
  ·obtain⟨b2,o2,ha2,hc⟩:=hr.at (List.length_pos_iff.2 h0)
   have hlt:=Row.lt (w:=w) (b:=b2) (o:=o2) (.inr ⟨b2,o2,rfl,hc⟩) h0
   rw[ha2]at h
   simp only[Option.some.injEq,Addr.mk.injEq]at h
   omega
set_option maxHeartbeats 2000000 in
theorem pdelete_any (ts:List Tenant) (a:Option Addr) (n c:Nat) (id out:Int) (w:World) (hn:ts.length= n) (hl:ts.length≤ 1000) (hc:a= none→c= 0) (hnc:n≤ c) (hr:TRow w a ts):
 Calls Tryz.prog 68 #[.slice a n c,.int .i64 id,.int .i64 out] w (RetTA w a (deleteS ts id out)):=by
 subst hn
 have hmax:ts.length≤ maxLen:=le_maxLen (by omega)
 have hr1:TRow (w.alloc (.cells #[.int .i64 0,.int .i64 0,.int .i64 0,.int .i64 0,.int .i64 0] 40)) a ts:=Row.alloc hr _
 have HP:Hid (deleteS ts id out=if (getS ts id).e≠0 then(ts,Ans.err (getS ts id).e)else if 0<out then(withL ⟨id,0,0,0,true⟩ ts,Ans.err 0)else(withoutL id ts,Ans.err 0)):=rfl
 generalize deleteS ts id out=res at HP ⊢
 rcases hg:getS ts id with⟨ge,grate,gburst,glease,gsize⟩
 have HG:=Lib.hid hg
 rw[hg]at HP
 clear hg
 cases h0:(ge !=0)with
 |true=>
  have HO:Hid (res=(ts,Ans.err ge)):=by
   have:ge≠ 0:=by simpa using h0
   rw[HP.out,if_pos this];exact rfl
  clear HP
  go_enter Tryz.func68,Tryz.ntmps68
  go_wp2_with(go_at_call 66;((with_reducible refine(pget_any ts _ _ _ _ _ rfl hmax hr1).mono ?_);rw[HG.out];rintro e w3 ⟨rfl,hb3⟩;have hcl:=own_cells hb3;have hfz:=own_frozen hb3))
  have hb4:=hb3.alloc hb3.size (.cells #[.int .i64 ge,.int .i64 grate,.int .i64 gburst,.int .i64 glease,.int .i64 gsize] 40)
  have hx0:(w3.alloc (.cells #[.int .i64 ge,.int .i64 grate,.int .i64 gburst,.int .i64 glease,.int .i64 gsize] 40)).cell? ⟨w3.heap.size,0,none⟩=some (.int .i64 ge):=(World.cell?_alloc_at _ _ _ 0 rfl)
  have hcl:=own_cells hb4
  have hfz:=own_frozen hb4
  generalize w3.alloc (.cells #[.int .i64 ge,.int .i64 grate,.int .i64 gburst,.int .i64 glease,.int .i64 gsize] 40)=w4 at hb4 hx0 hcl hfz ⊢
  have hx1:w4.drew.cell? ⟨w3.heap.size,0,none⟩=some (.int .i64 ge):=hx0
  unfold World.drew at hx1
  clear hcl hfz
  go_still_tail 5,(by kernel_rfl)
  change wpList _ _ _ _ _ w4.drew
  have hb5:=hb4.drew
  clear hx1 hx0 hb4
  generalize w4.drew=w5 at hb5 ⊢
  have hcl:=own_cells hb5
  have hfz:=own_frozen hb5
  go_wp2_with fail
  (try simp only[Exit.inBlock,Exit.then])
  refine bodyPost_ret (v:= .tuple #[.slice a ts.length c,.agg #[.int .i64 ge,.int .i64 0,.int .i64 0,.int .i64 0,.int .i64 0]]) (by simp[results,Tryz.results68,go_sem,hcl]) rfl ?_
  have hb6:=((Below.refl w.heap.size w).alloc (Nat.le_refl _) _).trans (hb5.mono (by simp))
  exact⟨a,c,by rw[HO.out];rfl,by rw[HO.out];exact hnc,hc,Near.self _ _,by rw[HO.out];exact hr.below (set5 hb6 (Nat.le_refl _) _ _ _ _ _),set5 hb6 (Nat.le_refl _) _ _ _ _ _⟩
 |false=>
  obtain rfl:ge= 0:=by simpa using h0
  by_cases hout:0< out
  ·have HO:Hid (res=(withL ⟨id,0,0,0,true⟩ ts,Ans.err 0)):=by rw[HP.out,if_neg (by simp),if_pos hout];exact rfl
   clear HP h0
   go_enter Tryz.func68,Tryz.ntmps68
   go_wp2_with(first|(go_at_call 66;((with_reducible refine(pget_any ts _ _ _ _ _ rfl hmax hr1).mono ?_);rw[HG.out];rintro e w3 ⟨rfl,hb3⟩;have hcl:=own_cells hb3;have hfz:=own_frozen hb3))|(go_at_call 116;((with_reducible refine(with_any ts _ _ _ ⟨id,0,0,0,true⟩ _ rfl hl hc hnc (Row.alloc (hr1.below hb3) _)).mono ?_);rintro e w7 ⟨a7,c7,rfl,hle7,hn7,hnear7,hr7,hb7⟩;have hb37:=(hb3.alloc hb3.size (.cells #[.int .i64 0,.int .i64 grate,.int .i64 gburst,.int .i64 glease,.int .i64 gsize] 40));have hb07:=hb37.trans (hb7.mono hb37.size);have hcl:=own_cells hb07;have hfz:=own_frozen hb07)))
   (try simp only[Exit.inBlock,Exit.then])
   refine bodyPost_ret (v:= .tuple #[.slice a7 (withL ⟨id,0,0,0,true⟩ ts).length c7,.agg #[.int .i64 0,.int .i64 0,.int .i64 0,.int .i64 0,.int .i64 0]]) (by simp[results,Tryz.results68,go_sem,hcl]) rfl ?_
   (try simp only[Exit.inBlock,Exit.then])
   have hb8:=((Below.refl w.heap.size w).alloc (Nat.le_refl _) _).trans (hb07.mono (by simp))
   have hsz:=hb3.size
   simp at hsz
   exact⟨a7,c7,by rw[HO.out];rfl,by rw[HO.out];exact hle7,hn7,(hnear7.mono (by simp;omega)).trans' _,by rw[HO.out];exact Row.set5 hr7 (hnear7.ne (by simp;omega)) _ _ _ _ _,set5 hb8 (Nat.le_refl _) _ _ _ _ _⟩
  ·have HO:Hid (res=(withoutL id ts,Ans.err 0)):=by rw[HP.out,if_neg (by simp),if_neg hout];exact rfl
   clear HP h0
   go_enter Tryz.func68,Tryz.ntmps68
   go_wp2_with(first|(go_at_call 66;((with_reducible refine(pget_any ts _ _ _ _ _ rfl hmax hr1).mono ?_);rw[HG.out];rintro e w3 ⟨rfl,hb3⟩;have hcl:=own_cells hb3;have hfz:=own_frozen hb3))|(go_at_call 117;((with_reducible refine(without_any ts _ _ _ id _ rfl hl hc hnc (Row.alloc (hr1.below hb3) _)).mono ?_);rintro e w7 ⟨a7,c7,rfl,hle7,hn7,hnear7,hr7,hb7⟩;have hb37:=(hb3.alloc hb3.size (.cells #[.int .i64 0,.int .i64 grate,.int .i64 gburst,.int .i64 glease,.int .i64 gsize] 40));have hb07:=hb37.trans (hb7.mono hb37.size);have hcl:=own_cells hb07;have hfz:=own_frozen hb07)))
   (try simp only[Exit.inBlock,Exit.then])
   refine bodyPost_ret (v:= .tuple #[.slice a7 (withoutL id ts).length c7,.agg #[.int .i64 0,.int .i64 0,.int .i64 0,.int .i64 0,.int .i64 0]]) (by simp[results,Tryz.results68,go_sem,hcl]) rfl ?_
   (try simp only[Exit.inBlock,Exit.then])
   have hb8:=((Below.refl w.heap.size w).alloc (Nat.le_refl _) _).trans (hb07.mono (by simp))
   have hsz:=hb3.size
   simp at hsz
   exact⟨a7,c7,by rw[HO.out];rfl,by rw[HO.out];exact hle7,hn7,hnear7.mono (by simp;omega),by rw[HO.out];exact Near.apart hr hnear7 (by simp;omega) (fun h=>by cases ts with|nil=> rfl|cons x xs=>simp [Tenant.cells]at h) hr7 _ _ _ _ _,set5 hb8 (Nat.le_refl _) _ _ _ _ _⟩
set_option maxHeartbeats 8000000 in
theorem way_del (w0:World):Way 67 #[] delC w0:=by
 intro s q c p gs gc w HG HST HC hne hok hgood hlen _
 obtain⟨hsm1,hsm2,hsm3,hsm4⟩:=ok_small hok
 have hq:=(stateOk_parts hok).2.2.2.1
 have hfit:=leasOk_fits (stOk_parts hq).1 (stOk_parts hq).2.1
 show Calls Tryz.prog 67 #[.pointer (some ⟨gs,0,none⟩),.pointer (some ⟨gc,0,none⟩)] w (WayPost w gs (delC s c))
 have HIT:=Lib.hid (inI_wf hgood.2.2.2.1)
 have HFIT:=Lib.hid hfit
 obtain⟨t1,t2,t3,⟨a1,n1,c1⟩,⟨a2,n2,c2⟩,⟨a3,n3,c3⟩,⟨a4,n4,c4⟩⟩:=q
 have HG1:=Lib.hid (HG.next ((Below.refl w.heap.size w).alloc (Nat.le_refl _) (.cells #[.int .i64 0,.int .i64 0,.int .i64 0,.int .i64 0,.int .i64 0] 40)))
 have HC1:=Lib.hid (HC.next ((Below.refl w.heap.size w).alloc (Nat.le_refl _) (.cells #[.int .i64 0,.int .i64 0,.int .i64 0,.int .i64 0,.int .i64 0] 40)))
 have HS1:=Lib.hid (HST.below ((Below.refl w.heap.size w).alloc (Nat.le_refl _) (.cells #[.int .i64 0,.int .i64 0,.int .i64 0,.int .i64 0,.int .i64 0] 40)))
 have HA1:=Lib.hid (ans_new w)
 have HO1:=Lib.hid (Only.of (g:=gs) ((Below.refl w.heap.size w).alloc (Nat.le_refl _) (.cells #[.int .i64 0,.int .i64 0,.int .i64 0,.int .i64 0,.int .i64 0] 40)))
 have hgs:=HG.lt
 have hgc:=HC.box.lt
 have HQ:Hid (delC s c=({s with tens:=(deleteS s.tens c.tenant (outL s.leas c.tenant)).1},(deleteS s.tens c.tenant (outL s.leas c.tenant)).2)):=rfl
 generalize delC s c=res at HQ ⊢
 clear HG HC HST hok hq hfit hgood
 go_enter Tryz.func67,Tryz.ntmps67
 go_wp2
 obtain⟨w1,hw1⟩:∃x,x=w.alloc (.cells #[.int .i64 0,.int .i64 0,.int .i64 0,.int .i64 0,.int .i64 0] 40):=⟨_,rfl⟩
 rw[←hw1]at HG1 HC1 HS1 HA1 HO1 ⊢
 have hz1:w.heap.size< w1.heap.size:=by rw[hw1];simp
 clear hw1
 refine wrq (fun l w'=>(w'.cell? ⟨gc,3,none⟩=some (.int .i64 c.tenant))∧Till 23 l (w'.cell? ⟨gs,0,none⟩=some (.int .i64 t1)∧w'.cell? ⟨gs,1,none⟩=some (.int .i64 t2)∧w'.cell? ⟨gs,2,none⟩=some (.int .i64 t3)∧w'.cell? ⟨gs,3,none⟩=some (.slice a1 n1 c1)∧w'.cell? ⟨gs,4,none⟩=some (.slice a2 n2 c2)∧w'.cell? ⟨gs,5,none⟩=some (.slice a3 n3 c3)∧w'.cell? ⟨gs,6,none⟩=some (.slice a4 n4 c4))) ?_
 refine toS ⟨HC1.out.box.box.cell (j:=3) rfl,fun _=>⟨HG1.out.box.cell (j:=0) rfl,HG1.out.box.cell (j:=1) rfl,HG1.out.box.cell (j:=2) rfl,HG1.out.box.cell (j:=3) rfl,HG1.out.box.cell (j:=4) rfl,HG1.out.box.cell (j:=5) rfl,HG1.out.box.cell (j:=6) rfl⟩⟩ ?_
 refine ttq [] 0 ?_
 refine ttq [] 1 ?_
 refine ttq [] 2 ?_
 refine ttq [] 3 ?_
 refine ttq [23] 4 ?_
 refine ttq [] 5 ?_
 refine ttq [] 6 ?_
 refine ttq [] 7 ?_
 refine ttq [23] 8 ?_
 refine ttq [] 9 ?_
 refine ttq [] 10 ?_
 refine ttq [23] 11 ?_
 refine ttq [] 12 ?_
 refine ttq [] 13 ?_
 refine ttq [] 14 ?_
 refine ttq [23] 15 ?_
 refine soq 16 (fun K hK=> ?_)
 go_simp
 go_at_call 41
 with_reducible refine(out_any s _ 0 c.tenant w1.drew (HS1.out.below ((Below.refl _ _).drew)) HFIT.out (by omega) HIT.out).mono ?_
 rintro e w2 ⟨rfl,hbz⟩
 have hb2:Below w1.heap.size w1 w2:=⟨hbz.os,hbz.tape,hbz.output,hbz.size,hbz.block⟩
 clear hbz
 have HG2:=Lib.hid (HG1.out.next hb2)
 have HC2:=Lib.hid (HC1.out.next hb2)
 have HA2:=Lib.hid (HA1.out.next hb2)
 have HS2:=Lib.hid (HS1.out.below hb2)
 have HO2:=Lib.hid (HO1.out.next hb2)
 refine hK.out _ _ ⟨HC2.out.box.box.cell (j:=3) rfl,fun _=>⟨HG2.out.box.cell (j:=0) rfl,HG2.out.box.cell (j:=1) rfl,HG2.out.box.cell (j:=2) rfl,HG2.out.box.cell (j:=3) rfl,HG2.out.box.cell (j:=4) rfl,HG2.out.box.cell (j:=5) rfl,HG2.out.box.cell (j:=6) rfl⟩⟩ ?_
 clear hK K
 refine soq 17 (fun K hK=> ?_)
 go_simp
 go_at_call 68
 with_reducible refine(pdelete_any s.tens a1 n1 c1 c.tenant (outL s.leas c.tenant) w2 HS2.out.ten.len (by omega) HS2.out.ten.nil HS2.out.ten.le HS2.out.trow).mono ?_
 rintro e w3 ⟨x1,y1,rfl,hle,hnil,hnear,hrow,hb3⟩
 have K3:=Lib.hid (And.intro hle (And.intro hnil hrow))
 clear hle hnil hnear hrow
 have HG3:=Lib.hid (HG2.out.next hb3)
 have HC3:=Lib.hid (HC2.out.next hb3)
 have HA3:=Lib.hid (HA2.out.next hb3)
 have HS3:=Lib.hid (HS2.out.below hb3)
 have HO3:=Lib.hid (HO2.out.next hb3)
 have hl3:=HG3.out.lt
 have hz3:w.heap.size< w3.heap.size:=by have:=HO3.out.size;have:=HA3.out.lt;omega
 generalize deleteS s.tens c.tenant (outL s.leas c.tenant)=pr at K3 HQ ⊢
 obtain⟨prt,⟨ae,ar,ab,al,az⟩⟩:=pr
 refine hK.out _ _ ⟨HC3.out.box.box.cell (j:=3) rfl,fun _=>⟨HG3.out.box.cell (j:=0) rfl,HG3.out.box.cell (j:=1) rfl,HG3.out.box.cell (j:=2) rfl,HG3.out.box.cell (j:=3) rfl,HG3.out.box.cell (j:=4) rfl,HG3.out.box.cell (j:=5) rfl,HG3.out.box.cell (j:=6) rfl⟩⟩ ?_
 clear hK K
 refine ttq [] 18 ?_
 refine ttq [] 19 ?_
 refine ttq [] 20 ?_
 refine ttq [] 21 ?_
 refine ttq [] 22 ?_
 refine soq 23 (fun K hK=> ?_)
 rw[if_pos (by rfl)]
 refine op_field_bex (.tmp 27) (.tmp 24) rfl size1_slice.2.1 gs 3 _ (.slice x1 prt.length y1) rfl rfl rfl rfl HG3.out (show 3<7 by decide) ?_
 intro w4 hx4 hw4
 have HG4:Hid (Bex w4 gs (Raw.cells ⟨t1,t2,t3,⟨x1,prt.length,y1⟩,⟨a2,n2,c2⟩,⟨a3,n3,c3⟩,⟨a4,n4,c4⟩⟩)):=hx4
 have HS4:Hid (StAt w4 0 ⟨t1,t2,t3,⟨x1,prt.length,y1⟩,⟨a2,n2,c2⟩,⟨a3,n3,c3⟩,⟨a4,n4,c4⟩⟩ {s with tens:=prt}):=put_tens HS3.out HG3.out hw4 K3.out.1 K3.out.2.1 K3.out.2.2
 have HC4:=Lib.hid (HC3.out.box.wrote hw4 (fun e=>hne e.symm))
 have HA4:=Lib.hid (HA3.out.wrote hw4 (by omega))
 have HO4:=Lib.hid (HO3.out.wrote hw4)
 clear hx4 hw4
 refine hK.out _ _ ⟨HC4.out.box.cell (j:=3) rfl,fun h=>absurd h (by decide)⟩ ?_
 clear hK K
 refine soq 24 (fun K hK=> ?_)
 rw[if_pos (by rfl)]
 refine op_store_bex layAns (.tmp 4) (.tmp 25) rfl w.heap.size ⟨ae,ar,ab,al,az⟩ _ rfl rfl HA4.out rfl ?_
 intro w5 hx5 hw5
 have HA5:=Lib.hid hx5
 have HG5:=Lib.hid (HG4.out.wrote hw5 (by omega))
 have HC5:=Lib.hid (HC4.out.wrote hw5 (by omega))
 have HS5:=Lib.hid (HS4.out.wrote HA4.out (misfits_ans _) hw5)
 have HO5:=Lib.hid (HO4.out.wroteNew hw5 (Nat.le_refl _))
 clear hx5 hw5
 refine hK.out _ _ ⟨HC5.out.box.cell (j:=3) rfl,fun h=>absurd h (by decide)⟩ ?_
 clear hK K
 refine sdq ?_
 go_wp2_with(first|((with_reducible refine at_load 40 (.tmp 4) ?_);refine wpList_load_as layAns rfl (.tmp 4) rfl w.heap.size 0 rfl ⟨ae,ar,ab,al,az⟩ (.agg #[.int .i64 ae,.int .i64 ar,.int .i64 ab,.int .i64 al,.int .i64 az]) rfl HA5.out.box.range ?_)|((with_reducible refine at_store 40 (.tmp 4) (.tmp 28) ?_);refine wpList_store_bex layAns rfl (.tmp 4) (.tmp 28) rfl w.heap.size ⟨ae,ar,ab,al,az⟩ _ rfl rfl HA5.out rfl ?_;intro w6 hx6 hw6;have HA6:=Lib.hid hx6;have HW6:=Lib.hid hw6;clear hx6 hw6))
 obtain⟨j0,j1,j2,j3,j4⟩:=ans_cells HA6.out
 refine bodyPost_ret (v:=Ans.agg ⟨ae,ar,ab,al,az⟩) (by simp[results,Tryz.results67,go_sem,j0,j1,j2,j3,j4]) rfl ?_
 rw[HQ.out]
 exact⟨rfl,_,HG5.out.wrote HW6.out (by omega),HS5.out.wrote HA5.out (misfits_ans _) HW6.out,HO5.out.wroteNew HW6.out (Nat.le_refl _)⟩
set_option maxHeartbeats 8000000 in
theorem way_get (w0:World):Way 65 #[] getC w0:=by
 intro s q c p gs gc w HG HST HC hne hok hgood hlen _
 obtain⟨hsm1,hsm2,hsm3,hsm4⟩:=ok_small hok
 have hq:=(stateOk_parts hok).2.2.2.1
 have hfit:=leasOk_fits (stOk_parts hq).1 (stOk_parts hq).2.1
 show Calls Tryz.prog 65 #[.pointer (some ⟨gs,0,none⟩),.pointer (some ⟨gc,0,none⟩)] w (WayPost w gs (getC s c))
 have HIT:=Lib.hid (inI_wf hgood.2.2.2.1)
 have HFIT:=Lib.hid hfit
 obtain⟨t1,t2,t3,⟨a1,n1,c1⟩,⟨a2,n2,c2⟩,⟨a3,n3,c3⟩,⟨a4,n4,c4⟩⟩:=q
 have HG1:=Lib.hid (HG.next ((Below.refl w.heap.size w).alloc (Nat.le_refl _) (.cells #[.int .i64 0,.int .i64 0,.int .i64 0,.int .i64 0,.int .i64 0] 40)))
 have HC1:=Lib.hid (HC.next ((Below.refl w.heap.size w).alloc (Nat.le_refl _) (.cells #[.int .i64 0,.int .i64 0,.int .i64 0,.int .i64 0,.int .i64 0] 40)))
 have HS1:=Lib.hid (HST.below ((Below.refl w.heap.size w).alloc (Nat.le_refl _) (.cells #[.int .i64 0,.int .i64 0,.int .i64 0,.int .i64 0,.int .i64 0] 40)))
 have HA1:=Lib.hid (ans_new w)
 have HO1:=Lib.hid (Only.of (g:=gs) ((Below.refl w.heap.size w).alloc (Nat.le_refl _) (.cells #[.int .i64 0,.int .i64 0,.int .i64 0,.int .i64 0,.int .i64 0] 40)))
 have hgs:=HG.lt
 have hgc:=HC.box.lt
 have HQ:Hid (getC s c=(s,getS s.tens c.tenant)):=rfl
 generalize getC s c=res at HQ ⊢
 clear HG HC HST hok hq hfit hgood
 go_enter Tryz.func65,Tryz.ntmps65
 go_wp2
 obtain⟨w1,hw1⟩:∃x,x=w.alloc (.cells #[.int .i64 0,.int .i64 0,.int .i64 0,.int .i64 0,.int .i64 0] 40):=⟨_,rfl⟩
 rw[←hw1]at HG1 HC1 HS1 HA1 HO1 ⊢
 have hz1:w.heap.size< w1.heap.size:=by rw[hw1];simp
 clear hw1
 refine wrq (fun l w'=>(w'.cell? ⟨gs,3,none⟩=some (.slice a1 n1 c1)∧w'.cell? ⟨gc,3,none⟩=some (.int .i64 c.tenant))) ?_
 refine toS ⟨HG1.out.box.cell (j:=3) rfl,HC1.out.box.box.cell (j:=3) rfl⟩ ?_
 refine tkq 0 ?_
 refine tkq 1 ?_
 refine tkq 2 ?_
 refine tkq 3 ?_
 refine tkq 4 ?_
 refine tkq 5 ?_
 refine tkq 6 ?_
 refine tkq 7 ?_
 refine soq 8 (fun K hK=> ?_)
 go_simp
 go_at_call 66
 with_reducible refine(pget_any s.tens a1 n1 c1 c.tenant w1.drew HS1.out.ten.len (le_maxLen (by omega)) (HS1.out.below ((Below.refl _ _).drew)).trow).mono ?_
 rintro e w2 ⟨rfl,hbz⟩
 have hb2:Below w1.heap.size w1 w2:=⟨hbz.os,hbz.tape,hbz.output,hbz.size,hbz.block⟩
 clear hbz
 have HG2:=Lib.hid (HG1.out.next hb2)
 have HC2:=Lib.hid (HC1.out.next hb2)
 have HA2:=Lib.hid (HA1.out.next hb2)
 have HS2:=Lib.hid (HS1.out.below hb2)
 have HO2:=Lib.hid (HO1.out.next hb2)
 have hl2:=HG2.out.lt
 have hz2:w.heap.size< w2.heap.size:=HA2.out.lt
 generalize getS s.tens c.tenant=ga at HQ ⊢
 obtain⟨ae,ar,ab,al,az⟩:=ga
 refine hK.out _ _ ⟨HG2.out.box.cell (j:=3) rfl,HC2.out.box.box.cell (j:=3) rfl⟩ ?_
 clear hK K
 refine soq 9 (fun K hK=> ?_)
 rw[if_pos (by rfl)]
 refine op_store_bex layAns (.tmp 4) (.tmp 13) rfl w.heap.size ⟨ae,ar,ab,al,az⟩ _ rfl rfl HA2.out rfl ?_
 intro w5 hx5 hw5
 have HA5:=Lib.hid hx5
 have HG5:=Lib.hid (HG2.out.wrote hw5 (by omega))
 have HC5:=Lib.hid (HC2.out.box.wrote hw5 (by omega))
 have HS5:=Lib.hid (HS2.out.wrote HA2.out (misfits_ans _) hw5)
 have HO5:=Lib.hid (HO2.out.wroteNew hw5 (Nat.le_refl _))
 clear hx5 hw5
 refine hK.out _ _ ⟨HG5.out.box.cell (j:=3) rfl,HC5.out.box.cell (j:=3) rfl⟩ ?_
 clear hK K
 refine sdq ?_
 go_wp2
 obtain⟨j0,j1,j2,j3,j4⟩:=ans_cells HA5.out
 refine bodyPost_ret (v:=Ans.agg ⟨ae,ar,ab,al,az⟩) (by simp[results,Tryz.results65,go_sem,j0,j1,j2,j3,j4]) rfl ?_
 rw[HQ.out]
 exact⟨rfl,_,HG5.out,HS5.out,HO5.out⟩
theorem Box.of_alloc3 {w w':World} {o o' o'':Obj} {cs:List Value} {t:TypeId} (hb:Below ((((w.alloc o).alloc o').alloc o'').alloc (.cells cs.toArray t)).heap.size ((((w.alloc o).alloc o').alloc o'').alloc (.cells cs.toArray t)) w'):Box w' (w.heap.size+1+ 1+1) cs:=by
 have:=Box.of_alloc hb
 rw[World.size_alloc,World.size_alloc,World.size_alloc]at this;exact this
theorem Box.of_alloc4 {w w':World} {o o' o'' o3:Obj} {cs:List Value} {t:TypeId} (hb:Below (((((w.alloc o).alloc o').alloc o'').alloc o3).alloc (.cells cs.toArray t)).heap.size (((((w.alloc o).alloc o').alloc o'').alloc o3).alloc (.cells cs.toArray t)) w'):Box w' (w.heap.size+1+ 1+1+ 1) cs:=by
 have:=Box.of_alloc hb
 rw[World.size_alloc,World.size_alloc,World.size_alloc,World.size_alloc]at this;exact this
def RetSE (w:World) (r:St× Int) (e:Ending) (w':World):Prop:= ∃q,e= .returned (.tuple #[Raw.agg q,.int .i64 r.2])∧StAt w' 0 q r.1∧Below w.heap.size w w'
theorem report_out {w w':World} {tmps:Array Value} {res:St× Int} {g:Nat} {r9:Raw} {e:Int} (h12:tmps[12]? =some (.pointer (some ⟨g,0,none⟩))) (h13:tmps[13]? =some (.int .i64 e))
 (hx:Box w' g (Raw.cells r9)) (hs:StAt w' 0 r9 res.1) (he:res.2= e) (hb:Below w.heap.size w w'):
 ∃v,(results Tryz.f71 tmps).run Tryz.prog w'= .ok v w'∧RetSE w res (.returned v) w':=by
 obtain⟨k0,k1,k2,k3,k4,k5,k6⟩:=cellsSt0 hx.range
 have g12:tmps[12]! = .pointer (some ⟨g,0,none⟩):=by rw[getElem!_def,h12]
 have g13:tmps[13]! = .int .i64 e:=by rw[getElem!_def,h13]
 refine⟨.tuple #[r9.agg,.int .i64 e],?_,r9,by rw[he],hs,hb⟩
 simp[results,Tryz.results71,go_sem,g12,g13,h12,h13,k0,k1,k2,k3,k4,k5,k6]
def RetSEN (w:World) (r:St× Int) (e:Ending) (w':World):Prop:= ∃q,e= .returned (.tuple #[Raw.agg q,.int .i64 r.2])∧StAt w' w.heap.size q r.1∧Below w.heap.size w w'
theorem RetSEN.se {w w':World} {r:St× Int} {e:Ending} (h:RetSEN w r e w'):RetSE w r e w':=let ⟨q,h1,h2,h3⟩:=h;⟨q,h1,h2.mono (Nat.zero_le _),h3⟩
theorem report_outN {w w':World} {tmps:Array Value} {res:St× Int} {g:Nat} {r9:Raw} {e:Int} (h12:tmps[12]? =some (.pointer (some ⟨g,0,none⟩))) (h13:tmps[13]? =some (.int .i64 e))
 (hx:Box w' g (Raw.cells r9)) (hs:StAt w' w.heap.size r9 res.1) (he:res.2= e) (hb:Below w.heap.size w w'):
 ∃v,(results Tryz.f71 tmps).run Tryz.prog w'= .ok v w'∧RetSEN w res (.returned v) w':=by
 refine⟨.tuple #[r9.agg,.int .i64 e],?_,r9,by rw[he],hs,hb⟩
 obtain⟨k0,k1,k2,k3,k4,k5,k6⟩:=cellsSt0 hx.range
 have g12:tmps[12]! = .pointer (some ⟨g,0,none⟩):=by rw[getElem!_def,h12]
 have g13:tmps[13]! = .int .i64 e:=by rw[getElem!_def,h13]
 simp[results,Tryz.results71,go_sem,g12,g13,h12,h13,k0,k1,k2,k3,k4,k5,k6]
set_option maxHeartbeats 16000000 in
theorem report_no (s:St) (r:Raw) (B:Nat) (sh ep le sp:Int) (cl:Bool) (w:World) (h:StAt w B r s) (hl1':s.tens.length≤ 800) (hl2:s.leas.length≤ 900) (hl3:s.sess.length≤ 900) (hl4:s.dsks.length≤ 900)
 (hok:stOk s=false):
 Calls Tryz.prog 71 #[r.agg,.int .i64 sh,.int .i64 ep,.int .i64 le,.int .i64 sp,.bool cl] w (RetSE w (s,2)):=by
 have hl1:s.tens.length≤ 900:=by omega
 have hmf:∀(fn:Fn) (first cap:Array Value) (w:World),(Instr.makeFunc fn first cap).run Tryz.prog w= .ok (.func fn first cap) w:=fun _ _ _ _=>rfl
 have HS:=Lib.hid h
 have HL:=Lib.hid (And.intro hl1 (And.intro hl2 (And.intro hl3 hl4)))
 have HCK:=Lib.hid (fun w' (hb:Below w.heap.size w w')=>check_st s r B w' (h.below hb) hl1 hl2)
 have HOK:=Lib.hid hok
 obtain⟨term,stamp,next,⟨a1,n1,c1⟩,⟨a2,n2,c2⟩,⟨a3,n3,c3⟩,⟨a4,n4,c4⟩⟩:=r
 have hn2:s.leas.length= n2:=h.lea.len
 subst hn2
 have HBX:Hid (∀w',Below (((((w.alloc (.cells #[.int .i64 term,.int .i64 stamp,.int .i64 next,.slice a1 n1 c1,.slice a2 s.leas.length c2,.slice a3 n3 c3,.slice a4 n4 c4] 27)).alloc (.cells #[.int .i64 sh] 3)).alloc (.cells #[.int .i64 ep] 3)).alloc (.cells #[.int .i64 le] 3)).alloc (.cells #[.int .i64 0,.int .i64 0,.int .i64 0,.slice none 0 0,.slice none 0 0,.slice none 0 0,.slice none 0 0] 27)).heap.size (((((w.alloc (.cells #[.int .i64 term,.int .i64 stamp,.int .i64 next,.slice a1 n1 c1,.slice a2 s.leas.length c2,.slice a3 n3 c3,.slice a4 n4 c4] 27)).alloc (.cells #[.int .i64 sh] 3)).alloc (.cells #[.int .i64 ep] 3)).alloc (.cells #[.int .i64 le] 3)).alloc (.cells #[.int .i64 0,.int .i64 0,.int .i64 0,.slice none 0 0,.slice none 0 0,.slice none 0 0,.slice none 0 0] 27)) w'→
  Box w' w.heap.size (Raw.cells ⟨term,stamp,next,⟨a1,n1,c1⟩,⟨a2,s.leas.length,c2⟩,⟨a3,n3,c3⟩,⟨a4,n4,c4⟩⟩)∧Box w' (w.heap.size+1) [.int .i64 sh]∧Box w' (w.heap.size+1+ 1) [.int .i64 ep]∧Box w' (w.heap.size+1+ 1+1) [.int .i64 le]∧Box w' (w.heap.size+1+ 1+1+ 1) (Raw.cells ⟨0,0,0,⟨none,0,0⟩,⟨none,0,0⟩,⟨none,0,0⟩,⟨none,0,0⟩⟩)∧w.heap.size+ 5≤w'.heap.size):=
  fun w' hb=>⟨Box.of_alloc (mid_alloc' (mid_alloc' (mid_alloc' (mid_alloc' hb)))),Box.of_alloc1 (mid_alloc' (mid_alloc' (mid_alloc' hb))),Box.of_alloc2 (mid_alloc' (mid_alloc' hb)),Box.of_alloc3 (mid_alloc' hb),Box.of_alloc4 hb,by have:=hb.size;simp at this;omega⟩
 clear h hl1 hl2 hl3 hl4 hok
 go_enter_defers Tryz.func71,Tryz.ntmps71
 go_wp2_with(first|(refine wpList_store_whole laySt rfl (.tmp 12) (.tmp 22) rfl (w.heap.size+1+ 1+1+ 1) ⟨term,stamp,next,⟨a1,n1,c1⟩,⟨a2,s.leas.length,c2⟩,⟨a3,n3,c3⟩,⟨a4,n4,c4⟩⟩ _ rfl rfl HX3.out.2.2.2.2.1 rfl ?_;intro w8 hbx8 hw8;have HX8:=Lib.hid hbx8;have HW8:=Lib.hid hw8;clear hbx8 hw8)|(go_at_call 43;((with_reducible refine(HCK.out _ belo).mono ?_);rw[HOK.out];rintro e w3 ⟨rfl,hb3⟩;have HX3:=Lib.hid (HBX.out w3 belo)))|(refine wpList_load_as laySt rfl (.tmp 6) rfl w.heap.size 0 rfl ⟨term,stamp,next,⟨a1,n1,c1⟩,⟨a2,s.leas.length,c2⟩,⟨a3,n3,c3⟩,⟨a4,n4,c4⟩⟩ (.agg #[.int .i64 term,.int .i64 stamp,.int .i64 next,.slice a1 n1 c1,.slice a2 s.leas.length c2,.slice a3 n3 c3,.slice a4 n4 c4]) rfl (HBX.out _ belo).1.range ?_))
 have b3:Below w.heap.size w w3:=belo
 have b8:Below w.heap.size w w8:=b3.trans (HW8.out.below _ (by omega))
 exact report_out (g:=(w.heap.size+1+ 1+1+ 1)) (e:=2) rfl rfl HX8.out ((HS.out.below b8).mono (Nat.zero_le _)) rfl b8
set_option maxHeartbeats 16000000 in
theorem report_none (s:St) (r:Raw) (B:Nat) (sh ep le sp:Int) (cl:Bool) (w:World) (h:StAt w B r s) (hl1':s.tens.length≤ 800) (hl2:s.leas.length≤ 900) (hl3:s.sess.length≤ 900) (hl4:s.dsks.length≤ 900)
 (hok:stOk s=true) (hix:idxL (leaIs sh ep le) s.leas= -1):
 Calls Tryz.prog 71 #[r.agg,.int .i64 sh,.int .i64 ep,.int .i64 le,.int .i64 sp,.bool cl] w (RetSEN w (sweptS s,180)):=by
 have hl1:s.tens.length≤ 900:=by omega
 have hmf:∀(fn:Fn) (first cap:Array Value) (w:World),(Instr.makeFunc fn first cap).run Tryz.prog w= .ok (.func fn first cap) w:=fun _ _ _ _=>rfl
 have HS:=Lib.hid h
 have HL:=Lib.hid (And.intro hl1 (And.intro hl2 (And.intro hl3 hl4)))
 have HCK:=Lib.hid (fun w' (hb:Below w.heap.size w w')=>check_st s r B w' (h.below hb) hl1 hl2)
 have HOK:=Lib.hid hok
 have HFIT:=Lib.hid (stOk_ten hok).2
 have HCP:=Lib.hid (fun w' (hb:Below w.heap.size w w')=>copied_st s r B w' (h.below hb) hl1 hl2 hl3 hl4)
 have HPF:=Lib.hid (fun te w' (hb:Below w.heap.size w w')=>pfind_any s.tens r.ten.a r.ten.n r.ten.c te w' h.ten.len (le_maxLen (by omega)) (Row.below h.trow hb))
 have HPL:=Lib.hid (fun gl gs ge w' (hb:Below w.heap.size w w') (hc1:w'.cell? ⟨gl,0,none⟩=some (.int .i64 le)) (hc2:w'.cell? ⟨gs,0,none⟩=some (.int .i64 sh)) (hc3:w'.cell? ⟨ge,0,none⟩=some (.int .i64 ep))=>place_lea s.leas r.lea.a r.lea.n r.lea.c 124 #[.pointer (some ⟨gl,0,none⟩),.pointer (some ⟨gs,0,none⟩),.pointer (some ⟨ge,0,none⟩)] (leaIs sh ep le) w' h.lea.len (le_maxLen (by have:=h.lea.len;omega)) (h.lea.row.below hb) enter_report2
  (fun x _ w'' hb'=>report2_any x sh ep le gl gs ge w'' ((hb'.cell (p:=⟨gl,0,none⟩) (World.block_lt_of_cell? w' _ hc1)).trans hc1) ((hb'.cell (p:=⟨gs,0,none⟩) (World.block_lt_of_cell? w' _ hc2)).trans hc2) ((hb'.cell (p:=⟨ge,0,none⟩) (World.block_lt_of_cell? w' _ hc3)).trans hc3)))
 have HI:=Lib.hid hix
 obtain⟨term,stamp,next,⟨a1,n1,c1⟩,⟨a2,n2,c2⟩,⟨a3,n3,c3⟩,⟨a4,n4,c4⟩⟩:=r
 have hn2:s.leas.length= n2:=h.lea.len
 subst hn2
 have HBX:Hid (∀w',Below (((((w.alloc (.cells #[.int .i64 term,.int .i64 stamp,.int .i64 next,.slice a1 n1 c1,.slice a2 s.leas.length c2,.slice a3 n3 c3,.slice a4 n4 c4] 27)).alloc (.cells #[.int .i64 sh] 3)).alloc (.cells #[.int .i64 ep] 3)).alloc (.cells #[.int .i64 le] 3)).alloc (.cells #[.int .i64 0,.int .i64 0,.int .i64 0,.slice none 0 0,.slice none 0 0,.slice none 0 0,.slice none 0 0] 27)).heap.size (((((w.alloc (.cells #[.int .i64 term,.int .i64 stamp,.int .i64 next,.slice a1 n1 c1,.slice a2 s.leas.length c2,.slice a3 n3 c3,.slice a4 n4 c4] 27)).alloc (.cells #[.int .i64 sh] 3)).alloc (.cells #[.int .i64 ep] 3)).alloc (.cells #[.int .i64 le] 3)).alloc (.cells #[.int .i64 0,.int .i64 0,.int .i64 0,.slice none 0 0,.slice none 0 0,.slice none 0 0,.slice none 0 0] 27)) w'→
  Box w' w.heap.size (Raw.cells ⟨term,stamp,next,⟨a1,n1,c1⟩,⟨a2,s.leas.length,c2⟩,⟨a3,n3,c3⟩,⟨a4,n4,c4⟩⟩)∧Box w' (w.heap.size+1) [.int .i64 sh]∧Box w' (w.heap.size+1+ 1) [.int .i64 ep]∧Box w' (w.heap.size+1+ 1+1) [.int .i64 le]∧Box w' (w.heap.size+1+ 1+1+ 1) (Raw.cells ⟨0,0,0,⟨none,0,0⟩,⟨none,0,0⟩,⟨none,0,0⟩,⟨none,0,0⟩⟩)∧w.heap.size+ 5≤w'.heap.size):=
  fun w' hb=>⟨Box.of_alloc (mid_alloc' (mid_alloc' (mid_alloc' (mid_alloc' hb)))),Box.of_alloc1 (mid_alloc' (mid_alloc' (mid_alloc' hb))),Box.of_alloc2 (mid_alloc' (mid_alloc' hb)),Box.of_alloc3 (mid_alloc' hb),Box.of_alloc4 hb,by have:=hb.size;simp at this;omega⟩
 clear h hl1 hl2 hl3 hl4 hok hix
 go_enter_defers Tryz.func71,Tryz.ntmps71
 go_wp2_with(first|(refine wpList_store_whole laySt rfl (.tmp 12) (.tmp 35) rfl (w.heap.size+1+ 1+1+ 1) ⟨t4,s4,n4,⟨x1,m1,y1⟩,⟨x2,m2,y2⟩,⟨x3,m3,y3⟩,⟨x4,m4,y4⟩⟩ _ rfl rfl HX6.out rfl ?_;intro w20 hbx20 hw20;have HX20:=Lib.hid hbx20;have HW20:=Lib.hid hw20;have q20:=Nat.le_of_eq hw20.size;have q20':=Nat.le_of_eq hw20.size.symm;clear hbx20 hw20)|(refine wpList_load_as laySt rfl (.tmp 12) rfl (w.heap.size+1+ 1+1+ 1) 0 rfl ⟨t4,s4,n4,⟨x1,m1,y1⟩,⟨x2,m2,y2⟩,⟨x3,m3,y3⟩,⟨x4,m4,y4⟩⟩ (.agg #[.int .i64 t4,.int .i64 s4,.int .i64 n4,.slice x1 m1 y1,.slice x2 m2 y2,.slice x3 m3 y3,.slice x4 m4 y4]) rfl HX6.out.range ?_)|(go_at_call 123;have hpl:=HPL.out (w.heap.size+1+ 1+1) (w.heap.size+1) (w.heap.size+1+ 1) w5 HB45.out HP5.out.1 HP5.out.2.1 HP5.out.2.2;((with_reducible refine hpl.mono ?_);clear hpl;rw[HI.out];rintro e w6 ⟨rfl,hb6⟩;have HB6:=Lib.hid (HB45.out.trans (hb6.mono (by omega)));have HX6:=Lib.hid (HX5.out.below hb6 (by omega));have HS6:=Lib.hid (HS5.out.below hb6 (by omega));have HST6:=Lib.hid (HST5.out.mid (Mid.below hb6 (Nat.le_refl _):Mid w3.heap.size w5.heap.size w5 w6) (Nat.le_refl _) (Nat.le_refl _));have q6:=hb6.size;clear k4;have k4:=HS6.out.cell (j:=4) rfl))|(refine wpList_store_whole laySt rfl (.tmp 12) (.tmp 25) rfl (w.heap.size+1+ 1+1+ 1) ⟨t4,s4,n4,⟨x1,m1,y1⟩,⟨x2,m2,y2⟩,⟨x3,m3,y3⟩,⟨x4,m4,y4⟩⟩ _ rfl rfl HX4.out.2.2.2.2.1 rfl ?_;intro w5 hbx5 hw5;have HX5:=Lib.hid hbx5;have q3:=HX3.out.2.2.2.2.2;have HST5:=Lib.hid (HST4.out.mid (Mid.wrote (Mid.refl w3.heap.size w4.heap.size w4) hw5 (.inl (by omega))) (Nat.le_refl _) (Nat.le_refl _));have HS5:=Lib.hid (HX4.out.1.wrote hw5 (by omega));have HP5:=Lib.hid (And.intro ((HX4.out.2.2.2.1.wrote hw5 (by omega)).cell (j:=0) rfl) (And.intro ((HX4.out.2.1.wrote hw5 (by omega)).cell (j:=0) rfl) ((HX4.out.2.2.1.wrote hw5 (by omega)).cell (j:=0) rfl)));have hb5:Below (w.heap.size+1+ 1+1+ 1) w4 w5:=hw5.below _ (Nat.le_refl _);have HB45:Hid (Below w.heap.size w w5):=Below.trans (show Below w.heap.size w w4 from belo) (hb5.mono (by omega));have q5:=Nat.le_of_eq hw5.size;have q5':=Nat.le_of_eq hw5.size.symm;have q34:=hb4.size;have k4:=HS5.out.cell (j:=4) rfl;clear hbx5 hw5)|(go_at_call 57;((with_reducible refine(HCP.out _ belo).mono ?_);rintro e w4 ⟨⟨t4,s4,n4,⟨x1,m1,y1⟩,⟨x2,m2,y2⟩,⟨x3,m3,y3⟩,⟨x4,m4,y4⟩⟩,rfl,hst4,hb4⟩;have HST4:=Lib.hid hst4;have HX4:=Lib.hid (HBX.out w4 belo);clear hst4))|(go_at_call 43;((with_reducible refine(HCK.out _ belo).mono ?_);rw[HOK.out];rintro e w3 ⟨rfl,hb3⟩;have HX3:=Lib.hid (HBX.out w3 belo)))|(refine wpList_load_as laySt rfl (.tmp 6) rfl w.heap.size 0 rfl ⟨term,stamp,next,⟨a1,n1,c1⟩,⟨a2,s.leas.length,c2⟩,⟨a3,n3,c3⟩,⟨a4,n4,c4⟩⟩ (.agg #[.int .i64 term,.int .i64 stamp,.int .i64 next,.slice a1 n1 c1,.slice a2 s.leas.length c2,.slice a3 n3 c3,.slice a4 n4 c4]) rfl (HBX.out _ belo).1.range ?_))
 have S20:StAt w20 w3.heap.size ⟨t4,s4,n4,⟨x1,m1,y1⟩,⟨x2,m2,y2⟩,⟨x3,m3,y3⟩,⟨x4,m4,y4⟩⟩ s:=HST6.out.is.mid (Mid.wrote (Mid.refl w3.heap.size w6.heap.size w6) HW20.out (.inl (by omega))) (Nat.le_refl _) (Nat.le_refl _)
 have b20:Below w.heap.size w w20:=HB6.out.trans (HW20.out.below _ (by omega))
 refine door_only (report1_d w3.heap.size (w.heap.size+1+ 1+1+ 1) s .returning w20 (sweep_st s _ w3.heap.size (w.heap.size+1+ 1+1+ 1) w20 HX20.out S20 (by omega) (by omega) HFIT.out HL.out.1 HL.out.2.1)) (by simp[go_sem]) ?_
 intro w' r9 hbxr hstr hor
 exact report_outN (g:=(w.heap.size+1+ 1+1+ 1)) (r9:=r9) (e:=180) rfl rfl hbxr (hstr.mono (by omega)) rfl (b20.trans (hor.below (by omega) (by omega)))
set_option maxHeartbeats 16000000 in
theorem report_less (s:St) (r:Raw) (B:Nat) (sh ep le sp:Int) (cl:Bool) (w:World) (h:StAt w B r s) (hl1':s.tens.length≤ 800) (hl2:s.leas.length≤ 900) (hl3:s.sess.length≤ 900) (hl4:s.dsks.length≤ 900)
 (i0 i1 i2 i3 i4 i5 i6:Int) (k:Nat) (hok:stOk s=true) (hix:idxL (leaIs sh ep le) s.leas=k) (hx:∃hk: k<s.leas.length,s.leas[k]=⟨i0,i1,i2,i3,i4,i5,i6⟩) (hr0:0≤ i6) (hr1:i6≤ i5) (hr2:i5≤ 1000000) (hc:sp< i6):
 Calls Tryz.prog 71 #[r.agg,.int .i64 sh,.int .i64 ep,.int .i64 le,.int .i64 sp,.bool cl] w (RetSEN w (sweptS s,2)):=by
 have hl1:s.tens.length≤ 900:=by omega
 have hmf:∀(fn:Fn) (first cap:Array Value) (w:World),(Instr.makeFunc fn first cap).run Tryz.prog w= .ok (.func fn first cap) w:=fun _ _ _ _=>rfl
 have HS:=Lib.hid h
 have HL:=Lib.hid (And.intro hl1 (And.intro hl2 (And.intro hl3 hl4)))
 have HCK:=Lib.hid (fun w' (hb:Below w.heap.size w w')=>check_st s r B w' (h.below hb) hl1 hl2)
 have HOK:=Lib.hid hok
 have HFIT:=Lib.hid (stOk_ten hok).2
 have HCP:=Lib.hid (fun w' (hb:Below w.heap.size w w')=>copied_st s r B w' (h.below hb) hl1 hl2 hl3 hl4)
 have HPF:=Lib.hid (fun te w' (hb:Below w.heap.size w w')=>pfind_any s.tens r.ten.a r.ten.n r.ten.c te w' h.ten.len (le_maxLen (by omega)) (Row.below h.trow hb))
 have HPL:=Lib.hid (fun gl gs ge w' (hb:Below w.heap.size w w') (hc1:w'.cell? ⟨gl,0,none⟩=some (.int .i64 le)) (hc2:w'.cell? ⟨gs,0,none⟩=some (.int .i64 sh)) (hc3:w'.cell? ⟨ge,0,none⟩=some (.int .i64 ep))=>place_lea s.leas r.lea.a r.lea.n r.lea.c 124 #[.pointer (some ⟨gl,0,none⟩),.pointer (some ⟨gs,0,none⟩),.pointer (some ⟨ge,0,none⟩)] (leaIs sh ep le) w' h.lea.len (le_maxLen (by have:=h.lea.len;omega)) (h.lea.row.below hb) enter_report2
  (fun x _ w'' hb'=>report2_any x sh ep le gl gs ge w'' ((hb'.cell (p:=⟨gl,0,none⟩) (World.block_lt_of_cell? w' _ hc1)).trans hc1) ((hb'.cell (p:=⟨gs,0,none⟩) (World.block_lt_of_cell? w' _ hc2)).trans hc2) ((hb'.cell (p:=⟨ge,0,none⟩) (World.block_lt_of_cell? w' _ hc3)).trans hc3)))
 have HI:=Lib.hid hix
 obtain⟨hk,hxk⟩:=hx
 have hr:=h.lea.row
 have hl2':=h.lea.len
 obtain⟨b,o,ha2,hcs⟩:=LRow.range hr hk
 have HRG:=Lib.hid (fun w' hb=>hcs w' hb)
 rw[hxk]at HRG
 have HXK:=Lib.hid hxk
 have HKL:=Lib.hid hk
 have hd:decide ((0:Int)≤(k:Int))=true:= decide_eq_true (by omega)
 have hkl:(k:Int)<(s.leas.length:Int):=by omega
 have hk900:(k:Int)<900:= by omega
 obtain⟨term,stamp,next,⟨a1,n1,c1⟩,⟨a2,n2,c2⟩,⟨a3,n3,c3⟩,⟨a4,n4,c4⟩⟩:=r
 have hn2:s.leas.length= n2:=h.lea.len
 subst hn2
 simp only at ha2
 subst ha2
 have HBX:Hid (∀w',Below (((((w.alloc (.cells #[.int .i64 term,.int .i64 stamp,.int .i64 next,.slice a1 n1 c1,.slice (some ⟨b,o,none⟩) s.leas.length c2,.slice a3 n3 c3,.slice a4 n4 c4] 27)).alloc (.cells #[.int .i64 sh] 3)).alloc (.cells #[.int .i64 ep] 3)).alloc (.cells #[.int .i64 le] 3)).alloc (.cells #[.int .i64 0,.int .i64 0,.int .i64 0,.slice none 0 0,.slice none 0 0,.slice none 0 0,.slice none 0 0] 27)).heap.size (((((w.alloc (.cells #[.int .i64 term,.int .i64 stamp,.int .i64 next,.slice a1 n1 c1,.slice (some ⟨b,o,none⟩) s.leas.length c2,.slice a3 n3 c3,.slice a4 n4 c4] 27)).alloc (.cells #[.int .i64 sh] 3)).alloc (.cells #[.int .i64 ep] 3)).alloc (.cells #[.int .i64 le] 3)).alloc (.cells #[.int .i64 0,.int .i64 0,.int .i64 0,.slice none 0 0,.slice none 0 0,.slice none 0 0,.slice none 0 0] 27)) w'→
  Box w' w.heap.size (Raw.cells ⟨term,stamp,next,⟨a1,n1,c1⟩,⟨some ⟨b,o,none⟩,s.leas.length,c2⟩,⟨a3,n3,c3⟩,⟨a4,n4,c4⟩⟩)∧Box w' (w.heap.size+1) [.int .i64 sh]∧Box w' (w.heap.size+1+ 1) [.int .i64 ep]∧Box w' (w.heap.size+1+ 1+1) [.int .i64 le]∧Box w' (w.heap.size+1+ 1+1+ 1) (Raw.cells ⟨0,0,0,⟨none,0,0⟩,⟨none,0,0⟩,⟨none,0,0⟩,⟨none,0,0⟩⟩)∧w.heap.size+ 5≤w'.heap.size):=
  fun w' hb=>⟨Box.of_alloc (mid_alloc' (mid_alloc' (mid_alloc' (mid_alloc' hb)))),Box.of_alloc1 (mid_alloc' (mid_alloc' (mid_alloc' hb))),Box.of_alloc2 (mid_alloc' (mid_alloc' hb)),Box.of_alloc3 (mid_alloc' hb),Box.of_alloc4 hb,by have:=hb.size;simp at this;omega⟩
 clear h hl1 hl2 hl3 hl4 hok hix hxk hr hcs hl2'
 go_enter_defers Tryz.func71,Tryz.ntmps71
 go_wp2_with(first|(refine wpList_store_whole laySt rfl (.tmp 12) (.tmp 52) rfl (w.heap.size+1+ 1+1+ 1) ⟨t4,s4,n4,⟨x1,m1,y1⟩,⟨x2,m2,y2⟩,⟨x3,m3,y3⟩,⟨x4,m4,y4⟩⟩ _ rfl rfl HX7.out rfl ?_;intro w20 hbx20 hw20;have HX20:=Lib.hid hbx20;have HW20:=Lib.hid hw20;have q20:=Nat.le_of_eq hw20.size;have q20':=Nat.le_of_eq hw20.size.symm;clear hbx20 hw20)|(refine wpList_load_as laySt rfl (.tmp 12) rfl (w.heap.size+1+ 1+1+ 1) 0 rfl ⟨t4,s4,n4,⟨x1,m1,y1⟩,⟨x2,m2,y2⟩,⟨x3,m3,y3⟩,⟨x4,m4,y4⟩⟩ (.agg #[.int .i64 t4,.int .i64 s4,.int .i64 n4,.slice x1 m1 y1,.slice x2 m2 y2,.slice x3 m3 y3,.slice x4 m4 y4]) rfl HX7.out.range ?_)|(have hgq:=q6;clear hgq;refine wpList_store_box layLea rfl (.tmp 16) (.tmp 40) rfl ⟨i0,i1,i2,i3,i4,i5,i6⟩ rfl rfl rfl ?_;intro w7 hw7 ht7 hb7 hs7;obtain⟨p0,p1,p2,p3,p4,p5,p6⟩:=cellsLea0 hw7;have HC7:Hid (Box w7 w6.heap.size (Lease.cells ⟨i0,i1,i2,i3,i4,i5,i6⟩)):=⟨hw7,ht7⟩;have HB7:=Lib.hid (HB6.out.trans (hb7.mono (by omega)));have HX7:=Lib.hid (HX6.out.below hb7 (by omega));have HS7:=Lib.hid (HS6.out.below hb7 (by omega));have HST7:=Lib.hid (HST6.out.mid (Mid.below hb7 (Nat.le_refl _):Mid w3.heap.size w6.heap.size w6 w7) (Nat.le_refl _) (Nat.le_refl _));have q7:=hb7.size;have q7':w7.heap.size≤ w6.heap.size+1:= (by rw[hs7];exact Nat.le_refl _);have q7'':w6.heap.size+ 1≤w7.heap.size:= (by rw[hs7];exact Nat.le_refl _);have k34:=HX7.out.cell (j:=4) rfl;clear k4;clear hw7 ht7 hs7)|(refine wpList_load_lay layLea rfl (.tmp 39) rfl b (o+k* layLea.size) rfl ⟨i0,i1,i2,i3,i4,i5,i6⟩ (HRG.out w6 HB6.out) ?_)|(go_at_call 123;have hpl:=HPL.out (w.heap.size+1+ 1+1) (w.heap.size+1) (w.heap.size+1+ 1) w5 HB45.out HP5.out.1 HP5.out.2.1 HP5.out.2.2;((with_reducible refine hpl.mono ?_);clear hpl;rw[HI.out];rintro e w6 ⟨rfl,hb6⟩;have HB6:=Lib.hid (HB45.out.trans (hb6.mono (by omega)));have HX6:=Lib.hid (HX5.out.below hb6 (by omega));have HS6:=Lib.hid (HS5.out.below hb6 (by omega));have HST6:=Lib.hid (HST5.out.mid (Mid.below hb6 (Nat.le_refl _):Mid w3.heap.size w5.heap.size w5 w6) (Nat.le_refl _) (Nat.le_refl _));have q6:=hb6.size;clear k4;have k4:=HS6.out.cell (j:=4) rfl))|(refine wpList_store_whole laySt rfl (.tmp 12) (.tmp 25) rfl (w.heap.size+1+ 1+1+ 1) ⟨t4,s4,n4,⟨x1,m1,y1⟩,⟨x2,m2,y2⟩,⟨x3,m3,y3⟩,⟨x4,m4,y4⟩⟩ _ rfl rfl HX4.out.2.2.2.2.1 rfl ?_;intro w5 hbx5 hw5;have HX5:=Lib.hid hbx5;have q3:=HX3.out.2.2.2.2.2;have HST5:=Lib.hid (HST4.out.mid (Mid.wrote (Mid.refl w3.heap.size w4.heap.size w4) hw5 (.inl (by omega))) (Nat.le_refl _) (Nat.le_refl _));have HS5:=Lib.hid (HX4.out.1.wrote hw5 (by omega));have HP5:=Lib.hid (And.intro ((HX4.out.2.2.2.1.wrote hw5 (by omega)).cell (j:=0) rfl) (And.intro ((HX4.out.2.1.wrote hw5 (by omega)).cell (j:=0) rfl) ((HX4.out.2.2.1.wrote hw5 (by omega)).cell (j:=0) rfl)));have hb5:Below (w.heap.size+1+ 1+1+ 1) w4 w5:=hw5.below _ (Nat.le_refl _);have HB45:Hid (Below w.heap.size w w5):=Below.trans (show Below w.heap.size w w4 from belo) (hb5.mono (by omega));have q5:=Nat.le_of_eq hw5.size;have q5':=Nat.le_of_eq hw5.size.symm;have q34:=hb4.size;have k4:=HS5.out.cell (j:=4) rfl;clear hbx5 hw5)|(go_at_call 57;((with_reducible refine(HCP.out _ belo).mono ?_);rintro e w4 ⟨⟨t4,s4,n4,⟨x1,m1,y1⟩,⟨x2,m2,y2⟩,⟨x3,m3,y3⟩,⟨x4,m4,y4⟩⟩,rfl,hst4,hb4⟩;have HST4:=Lib.hid hst4;have HX4:=Lib.hid (HBX.out w4 belo);clear hst4))|(go_at_call 43;((with_reducible refine(HCK.out _ belo).mono ?_);rw[HOK.out];rintro e w3 ⟨rfl,hb3⟩;have HX3:=Lib.hid (HBX.out w3 belo)))|(refine wpList_load_as laySt rfl (.tmp 6) rfl w.heap.size 0 rfl ⟨term,stamp,next,⟨a1,n1,c1⟩,⟨some ⟨b,o,none⟩,s.leas.length,c2⟩,⟨a3,n3,c3⟩,⟨a4,n4,c4⟩⟩ (.agg #[.int .i64 term,.int .i64 stamp,.int .i64 next,.slice a1 n1 c1,.slice (some ⟨b,o,none⟩) s.leas.length c2,.slice a3 n3 c3,.slice a4 n4 c4]) rfl (HBX.out _ belo).1.range ?_))
 have S20:StAt w20 w3.heap.size ⟨t4,s4,n4,⟨x1,m1,y1⟩,⟨x2,m2,y2⟩,⟨x3,m3,y3⟩,⟨x4,m4,y4⟩⟩ s:=HST7.out.is.mid (Mid.wrote (Mid.refl w3.heap.size w7.heap.size w7) HW20.out (.inl (by omega))) (Nat.le_refl _) (Nat.le_refl _)
 have b20:Below w.heap.size w w20:=HB7.out.trans (HW20.out.below _ (by omega))
 refine door_only (report1_d w3.heap.size (w.heap.size+1+ 1+1+ 1) s .returning w20 (sweep_st s _ w3.heap.size (w.heap.size+1+ 1+1+ 1) w20 HX20.out S20 (by omega) (by omega) HFIT.out HL.out.1 HL.out.2.1)) (by simp[go_sem]) ?_
 intro w' r9 hbxr hstr hor
 exact report_outN (g:=(w.heap.size+1+ 1+1+ 1)) (r9:=r9) (e:=2) rfl rfl hbxr (hstr.mono (by omega)) rfl (b20.trans (hor.below (by omega) (by omega)))
set_option maxHeartbeats 16000000 in
theorem report_more (s:St) (r:Raw) (B:Nat) (sh ep le sp:Int) (cl:Bool) (w:World) (h:StAt w B r s) (hl1':s.tens.length≤ 800) (hl2:s.leas.length≤ 900) (hl3:s.sess.length≤ 900) (hl4:s.dsks.length≤ 900)
 (i0 i1 i2 i3 i4 i5 i6:Int) (k:Nat) (hok:stOk s=true) (hix:idxL (leaIs sh ep le) s.leas=k) (hx:∃hk: k<s.leas.length,s.leas[k]=⟨i0,i1,i2,i3,i4,i5,i6⟩) (hr0:0≤ i6) (hr1:i6≤ i5) (hr2:i5≤ 1000000) (hc0:i6≤ sp) (hc:i5< sp):
 Calls Tryz.prog 71 #[r.agg,.int .i64 sh,.int .i64 ep,.int .i64 le,.int .i64 sp,.bool cl] w (RetSEN w (sweptS s,2)):=by
 have hl1:s.tens.length≤ 900:=by omega
 have hmf:∀(fn:Fn) (first cap:Array Value) (w:World),(Instr.makeFunc fn first cap).run Tryz.prog w= .ok (.func fn first cap) w:=fun _ _ _ _=>rfl
 have HS:=Lib.hid h
 have HL:=Lib.hid (And.intro hl1 (And.intro hl2 (And.intro hl3 hl4)))
 have HCK:=Lib.hid (fun w' (hb:Below w.heap.size w w')=>check_st s r B w' (h.below hb) hl1 hl2)
 have HOK:=Lib.hid hok
 have HFIT:=Lib.hid (stOk_ten hok).2
 have HCP:=Lib.hid (fun w' (hb:Below w.heap.size w w')=>copied_st s r B w' (h.below hb) hl1 hl2 hl3 hl4)
 have HPF:=Lib.hid (fun te w' (hb:Below w.heap.size w w')=>pfind_any s.tens r.ten.a r.ten.n r.ten.c te w' h.ten.len (le_maxLen (by omega)) (Row.below h.trow hb))
 have HPL:=Lib.hid (fun gl gs ge w' (hb:Below w.heap.size w w') (hc1:w'.cell? ⟨gl,0,none⟩=some (.int .i64 le)) (hc2:w'.cell? ⟨gs,0,none⟩=some (.int .i64 sh)) (hc3:w'.cell? ⟨ge,0,none⟩=some (.int .i64 ep))=>place_lea s.leas r.lea.a r.lea.n r.lea.c 124 #[.pointer (some ⟨gl,0,none⟩),.pointer (some ⟨gs,0,none⟩),.pointer (some ⟨ge,0,none⟩)] (leaIs sh ep le) w' h.lea.len (le_maxLen (by have:=h.lea.len;omega)) (h.lea.row.below hb) enter_report2
  (fun x _ w'' hb'=>report2_any x sh ep le gl gs ge w'' ((hb'.cell (p:=⟨gl,0,none⟩) (World.block_lt_of_cell? w' _ hc1)).trans hc1) ((hb'.cell (p:=⟨gs,0,none⟩) (World.block_lt_of_cell? w' _ hc2)).trans hc2) ((hb'.cell (p:=⟨ge,0,none⟩) (World.block_lt_of_cell? w' _ hc3)).trans hc3)))
 have HI:=Lib.hid hix
 obtain⟨hk,hxk⟩:=hx
 have hr:=h.lea.row
 have hl2':=h.lea.len
 obtain⟨b,o,ha2,hcs⟩:=LRow.range hr hk
 have HRG:=Lib.hid (fun w' hb=>hcs w' hb)
 rw[hxk]at HRG
 have HXK:=Lib.hid hxk
 have HKL:=Lib.hid hk
 have hd:decide ((0:Int)≤(k:Int))=true:= decide_eq_true (by omega)
 have hkl:(k:Int)<(s.leas.length:Int):=by omega
 have hk900:(k:Int)<900:= by omega
 obtain⟨term,stamp,next,⟨a1,n1,c1⟩,⟨a2,n2,c2⟩,⟨a3,n3,c3⟩,⟨a4,n4,c4⟩⟩:=r
 have hn2:s.leas.length= n2:=h.lea.len
 subst hn2
 simp only at ha2
 subst ha2
 have HBX:Hid (∀w',Below (((((w.alloc (.cells #[.int .i64 term,.int .i64 stamp,.int .i64 next,.slice a1 n1 c1,.slice (some ⟨b,o,none⟩) s.leas.length c2,.slice a3 n3 c3,.slice a4 n4 c4] 27)).alloc (.cells #[.int .i64 sh] 3)).alloc (.cells #[.int .i64 ep] 3)).alloc (.cells #[.int .i64 le] 3)).alloc (.cells #[.int .i64 0,.int .i64 0,.int .i64 0,.slice none 0 0,.slice none 0 0,.slice none 0 0,.slice none 0 0] 27)).heap.size (((((w.alloc (.cells #[.int .i64 term,.int .i64 stamp,.int .i64 next,.slice a1 n1 c1,.slice (some ⟨b,o,none⟩) s.leas.length c2,.slice a3 n3 c3,.slice a4 n4 c4] 27)).alloc (.cells #[.int .i64 sh] 3)).alloc (.cells #[.int .i64 ep] 3)).alloc (.cells #[.int .i64 le] 3)).alloc (.cells #[.int .i64 0,.int .i64 0,.int .i64 0,.slice none 0 0,.slice none 0 0,.slice none 0 0,.slice none 0 0] 27)) w'→
  Box w' w.heap.size (Raw.cells ⟨term,stamp,next,⟨a1,n1,c1⟩,⟨some ⟨b,o,none⟩,s.leas.length,c2⟩,⟨a3,n3,c3⟩,⟨a4,n4,c4⟩⟩)∧Box w' (w.heap.size+1) [.int .i64 sh]∧Box w' (w.heap.size+1+ 1) [.int .i64 ep]∧Box w' (w.heap.size+1+ 1+1) [.int .i64 le]∧Box w' (w.heap.size+1+ 1+1+ 1) (Raw.cells ⟨0,0,0,⟨none,0,0⟩,⟨none,0,0⟩,⟨none,0,0⟩,⟨none,0,0⟩⟩)∧w.heap.size+ 5≤w'.heap.size):=
  fun w' hb=>⟨Box.of_alloc (mid_alloc' (mid_alloc' (mid_alloc' (mid_alloc' hb)))),Box.of_alloc1 (mid_alloc' (mid_alloc' (mid_alloc' hb))),Box.of_alloc2 (mid_alloc' (mid_alloc' hb)),Box.of_alloc3 (mid_alloc' hb),Box.of_alloc4 hb,by have:=hb.size;simp at this;omega⟩
 clear h hl1 hl2 hl3 hl4 hok hix hxk hr hcs hl2'
 go_enter_defers Tryz.func71,Tryz.ntmps71
 go_wp2_with(first|(refine wpList_store_whole laySt rfl (.tmp 12) (.tmp 52) rfl (w.heap.size+1+ 1+1+ 1) ⟨t4,s4,n4,⟨x1,m1,y1⟩,⟨x2,m2,y2⟩,⟨x3,m3,y3⟩,⟨x4,m4,y4⟩⟩ _ rfl rfl HX7.out rfl ?_;intro w20 hbx20 hw20;have HX20:=Lib.hid hbx20;have HW20:=Lib.hid hw20;have q20:=Nat.le_of_eq hw20.size;have q20':=Nat.le_of_eq hw20.size.symm;clear hbx20 hw20)|(refine wpList_load_as laySt rfl (.tmp 12) rfl (w.heap.size+1+ 1+1+ 1) 0 rfl ⟨t4,s4,n4,⟨x1,m1,y1⟩,⟨x2,m2,y2⟩,⟨x3,m3,y3⟩,⟨x4,m4,y4⟩⟩ (.agg #[.int .i64 t4,.int .i64 s4,.int .i64 n4,.slice x1 m1 y1,.slice x2 m2 y2,.slice x3 m3 y3,.slice x4 m4 y4]) rfl HX7.out.range ?_)|(have hgq:=q6;clear hgq;refine wpList_store_box layLea rfl (.tmp 16) (.tmp 40) rfl ⟨i0,i1,i2,i3,i4,i5,i6⟩ rfl rfl rfl ?_;intro w7 hw7 ht7 hb7 hs7;obtain⟨p0,p1,p2,p3,p4,p5,p6⟩:=cellsLea0 hw7;have HC7:Hid (Box w7 w6.heap.size (Lease.cells ⟨i0,i1,i2,i3,i4,i5,i6⟩)):=⟨hw7,ht7⟩;have HB7:=Lib.hid (HB6.out.trans (hb7.mono (by omega)));have HX7:=Lib.hid (HX6.out.below hb7 (by omega));have HS7:=Lib.hid (HS6.out.below hb7 (by omega));have HST7:=Lib.hid (HST6.out.mid (Mid.below hb7 (Nat.le_refl _):Mid w3.heap.size w6.heap.size w6 w7) (Nat.le_refl _) (Nat.le_refl _));have q7:=hb7.size;have q7':w7.heap.size≤ w6.heap.size+1:= (by rw[hs7];exact Nat.le_refl _);have q7'':w6.heap.size+ 1≤w7.heap.size:= (by rw[hs7];exact Nat.le_refl _);have k34:=HX7.out.cell (j:=4) rfl;clear k4;clear hw7 ht7 hs7)|(refine wpList_load_lay layLea rfl (.tmp 39) rfl b (o+k* layLea.size) rfl ⟨i0,i1,i2,i3,i4,i5,i6⟩ (HRG.out w6 HB6.out) ?_)|(go_at_call 123;have hpl:=HPL.out (w.heap.size+1+ 1+1) (w.heap.size+1) (w.heap.size+1+ 1) w5 HB45.out HP5.out.1 HP5.out.2.1 HP5.out.2.2;((with_reducible refine hpl.mono ?_);clear hpl;rw[HI.out];rintro e w6 ⟨rfl,hb6⟩;have HB6:=Lib.hid (HB45.out.trans (hb6.mono (by omega)));have HX6:=Lib.hid (HX5.out.below hb6 (by omega));have HS6:=Lib.hid (HS5.out.below hb6 (by omega));have HST6:=Lib.hid (HST5.out.mid (Mid.below hb6 (Nat.le_refl _):Mid w3.heap.size w5.heap.size w5 w6) (Nat.le_refl _) (Nat.le_refl _));have q6:=hb6.size;clear k4;have k4:=HS6.out.cell (j:=4) rfl))|(refine wpList_store_whole laySt rfl (.tmp 12) (.tmp 25) rfl (w.heap.size+1+ 1+1+ 1) ⟨t4,s4,n4,⟨x1,m1,y1⟩,⟨x2,m2,y2⟩,⟨x3,m3,y3⟩,⟨x4,m4,y4⟩⟩ _ rfl rfl HX4.out.2.2.2.2.1 rfl ?_;intro w5 hbx5 hw5;have HX5:=Lib.hid hbx5;have q3:=HX3.out.2.2.2.2.2;have HST5:=Lib.hid (HST4.out.mid (Mid.wrote (Mid.refl w3.heap.size w4.heap.size w4) hw5 (.inl (by omega))) (Nat.le_refl _) (Nat.le_refl _));have HS5:=Lib.hid (HX4.out.1.wrote hw5 (by omega));have HP5:=Lib.hid (And.intro ((HX4.out.2.2.2.1.wrote hw5 (by omega)).cell (j:=0) rfl) (And.intro ((HX4.out.2.1.wrote hw5 (by omega)).cell (j:=0) rfl) ((HX4.out.2.2.1.wrote hw5 (by omega)).cell (j:=0) rfl)));have hb5:Below (w.heap.size+1+ 1+1+ 1) w4 w5:=hw5.below _ (Nat.le_refl _);have HB45:Hid (Below w.heap.size w w5):=Below.trans (show Below w.heap.size w w4 from belo) (hb5.mono (by omega));have q5:=Nat.le_of_eq hw5.size;have q5':=Nat.le_of_eq hw5.size.symm;have q34:=hb4.size;have k4:=HS5.out.cell (j:=4) rfl;clear hbx5 hw5)|(go_at_call 57;((with_reducible refine(HCP.out _ belo).mono ?_);rintro e w4 ⟨⟨t4,s4,n4,⟨x1,m1,y1⟩,⟨x2,m2,y2⟩,⟨x3,m3,y3⟩,⟨x4,m4,y4⟩⟩,rfl,hst4,hb4⟩;have HST4:=Lib.hid hst4;have HX4:=Lib.hid (HBX.out w4 belo);clear hst4))|(go_at_call 43;((with_reducible refine(HCK.out _ belo).mono ?_);rw[HOK.out];rintro e w3 ⟨rfl,hb3⟩;have HX3:=Lib.hid (HBX.out w3 belo)))|(refine wpList_load_as laySt rfl (.tmp 6) rfl w.heap.size 0 rfl ⟨term,stamp,next,⟨a1,n1,c1⟩,⟨some ⟨b,o,none⟩,s.leas.length,c2⟩,⟨a3,n3,c3⟩,⟨a4,n4,c4⟩⟩ (.agg #[.int .i64 term,.int .i64 stamp,.int .i64 next,.slice a1 n1 c1,.slice (some ⟨b,o,none⟩) s.leas.length c2,.slice a3 n3 c3,.slice a4 n4 c4]) rfl (HBX.out _ belo).1.range ?_))
 have S20:StAt w20 w3.heap.size ⟨t4,s4,n4,⟨x1,m1,y1⟩,⟨x2,m2,y2⟩,⟨x3,m3,y3⟩,⟨x4,m4,y4⟩⟩ s:=HST7.out.is.mid (Mid.wrote (Mid.refl w3.heap.size w7.heap.size w7) HW20.out (.inl (by omega))) (Nat.le_refl _) (Nat.le_refl _)
 have b20:Below w.heap.size w w20:=HB7.out.trans (HW20.out.below _ (by omega))
 refine door_only (report1_d w3.heap.size (w.heap.size+1+ 1+1+ 1) s .returning w20 (sweep_st s _ w3.heap.size (w.heap.size+1+ 1+1+ 1) w20 HX20.out S20 (by omega) (by omega) HFIT.out HL.out.1 HL.out.2.1)) (by simp[go_sem]) ?_
 intro w' r9 hbxr hstr hor
 exact report_outN (g:=(w.heap.size+1+ 1+1+ 1)) (r9:=r9) (e:=2) rfl rfl hbxr (hstr.mono (by omega)) rfl (b20.trans (hor.below (by omega) (by omega)))
end Go.Proofs.YtfdmhpohfjbpfaaGreat
