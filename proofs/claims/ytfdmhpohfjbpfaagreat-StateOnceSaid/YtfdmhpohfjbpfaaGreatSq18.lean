import Derived.Laws.EntriesVeiled
import Derived.Test.YtfdmhpohfjbpfaaGreatSqLedRepSpend
import Derived.Test.YtfdmhpohfjbpfaaGreatSqLedRepKeep
import Derived.Test.YtfdmhpohfjbpfaaGreatSqLedRepGone
import Derived.Test.YtfdmhpohfjbpfaaGreatSqLedRepBack
import Derived.Test.YtfdmhpohfjbpfaaGreatSqStaCli
import Derived.Test.YtfdmhpohfjbpfaaGreatSqStaGrN
import Derived.Test.YtfdmhpohfjbpfaaGreatSqStaGrH
set_option linter.unusedVariables false
set_option linter.unusedSimpArgs false
namespace Go.Proofs.YtfdmhpohfjbpfaaGreat
open Go.ChangeShapes Go.WideShapes Go.ChangeAt Go.RowKit
set_option maxRecDepth 100000
theorem report_new (s:St) (r:Raw) (B:Nat) (sh ep le sp:Int) (cl:Bool) (w:World) (h:StAt w B r s) (hl1:s.tens.length≤ 800) (hl2:s.leas.length≤ 900) (hl3:s.sess.length≤ 900) (hl4:s.dsks.length≤ 900) (hok:stOk s=true):
 Calls Tryz.prog 71 #[r.agg,.int .i64 sh,.int .i64 ep,.int .i64 le,.int .i64 sp,.bool cl] w (RetSEN w (reportS s sh ep le sp cl)):=by
 have hno:¬(stOk s=false):=by rw[hok];simp
 obtain⟨h1,h2,h3,h4⟩:=stOk_parts hok
 have hfit:=leasOk_fits h1 h2
 have hris:=leasOk_rising h2
 rcases idxL_find (leaIs sh ep le) s.leas with⟨hix,hf⟩|⟨k,hk,hix,hf⟩
 ·rw[show reportS s sh ep le sp cl=(sweptS s,180) by unfold reportS;rw[if_neg hno,hf]]
  exact report_none s r B sh ep le sp cl w h hl1 hl2 hl3 hl4 hok hix
 ·have hle:s.leas[k].id=le:= by
   have:=List.find?_some hf
   unfold leaIs at this
   exact(of_decide_eq_true this).1
  have hfx:=hfit _ (List.getElem_mem hk)
  have hres:reportS s sh ep le sp cl=(if sp<s.leas[k].spent∨s.leas[k].size<sp then(sweptS s,2)
   else if cl=false∧ sp<s.leas[k].size then(sweptS {s with leas:=spendL le sp s.leas},0)
   else(sweptS {s with leas:=dropL le s.leas,tens:=if cl=true∧ (findT s.tens s.leas[k].tenant).1.gone=false then(setS s.tens (backT s s.leas[k] sp)).1 else s.tens},0)):=by
   unfold reportS;rw[if_neg hno,hf]
  have hdrop:dropL le s.leas=s.leas.eraseIdx k:=by rw[←hle];exact dropL_at hris hk
  have hspend:spendL le sp s.leas=s.leas.set k {s.leas[k]with spent:=sp}:=by rw[←hle];exact spendL_at hris hk
  have hdx:dropL s.leas[k].id s.leas=s.leas.eraseIdx k:=dropL_at hris hk
  rw[hres,hdrop,hspend]
  unfold backT
  rw[hdx]
  clear hres hdrop hspend hdx hf
  have hx:∃hk: k<s.leas.length,s.leas[k]=s.leas[k]:=⟨hk,rfl⟩
  generalize hxe:s.leas[k]=x at hx hfx hle ⊢
  have hfit2:sp< x.size→x.spent≤ sp→Fits (s.leas.set k {x with spent:=sp}):=fun e1 e2 y hy=>by
   rcases List.mem_or_eq_of_mem_set hy with hy|rfl
   ·exact hfit y hy
   ·simp only;omega
  obtain⟨i0,i1,i2,i3,i4,i5,i6⟩:=x
  simp only at hfx hle hfit2 ⊢
  have hx':∃hk: k<s.leas.length,s.leas[k]=⟨i0,i1,i2,i3,i4,i5,i6⟩:=⟨hk,hxe⟩
  by_cases c1:sp< i6
  ·rw[if_pos (.inl c1)]
   exact report_less s r B sh ep le sp cl w h hl1 hl2 hl3 hl4 i0 i1 i2 i3 i4 i5 i6 k hok hix hx' (by omega) (by omega) (by omega) c1
  ·by_cases c2:i5< sp
   ·rw[if_pos (.inr c2)]
    exact report_more s r B sh ep le sp cl w h hl1 hl2 hl3 hl4 i0 i1 i2 i3 i4 i5 i6 k hok hix hx' (by omega) (by omega) (by omega) (by omega) c2
   ·rw[if_neg (by omega)]
    have hfd:findT s.tens i1=((findT s.tens i1).1,(findT s.tens i1).2):=rfl
    generalize(findT s.tens i1).1=t at hfd ⊢
    generalize(findT s.tens i1).2=ok at hfd
    obtain⟨fid,frate,fburst,fbucket,fgone⟩:=t
    cases cl with
    |false=>
     by_cases c3:sp< i5
     ·rw[if_pos ⟨rfl,c3⟩]
      exact report_spend s r B sh ep le sp false w h hl1 hl2 hl3 hl4 i0 i1 i2 i3 i4 i5 i6 k hok hix hx' (by omega) (by omega) (by omega) rfl (by omega) c3 (hfit2 c3 (by omega))
     ·rw[if_neg (by omega),if_neg (by simp)]
      exact report_keep s r B sh ep le sp false w h hl1 hl2 hl3 hl4 i0 i1 i2 i3 i4 i5 i6 k hok hix hx' (by omega) (by omega) (by omega) fid frate fburst fbucket fgone ok hfd rfl (by omega) (by omega)
    |true=>
     rw[if_neg (by simp)]
     cases fgone with
     |true=>
      rw[if_neg (by simp)]
      exact report_gone s r B sh ep le sp true w h hl1 hl2 hl3 hl4 i0 i1 i2 i3 i4 i5 i6 k hok hix hx' (by omega) (by omega) (by omega) fid frate fburst fbucket true ok hfd rfl (by omega) (by omega) rfl
     |false=>
      rw[if_pos (by simp)]
      exact report_back s r B sh ep le sp true w h hl1 hl2 hl3 hl4 i0 i1 i2 i3 i4 i5 i6 k hok hix hx' (by omega) (by omega) (by omega) fid frate fburst fbucket ok hfd rfl (by omega) (by omega)
theorem report_st (s:St) (r:Raw) (B:Nat) (sh ep le sp:Int) (cl:Bool) (w:World) (h:StAt w B r s) (hl1:s.tens.length≤ 800) (hl2:s.leas.length≤ 900) (hl3:s.sess.length≤ 900) (hl4:s.dsks.length≤ 900):
 Calls Tryz.prog 71 #[r.agg,.int .i64 sh,.int .i64 ep,.int .i64 le,.int .i64 sp,.bool cl] w (RetSE w (reportS s sh ep le sp cl)):=by
 cases hok:stOk s with
 |false=>
  rw[show reportS s sh ep le sp cl=(s,2) by unfold reportS;rw[if_pos hok]]
  exact report_no s r B sh ep le sp cl w h hl1 hl2 hl3 hl4 hok
 |true=> exact(report_new s r B sh ep le sp cl w h hl1 hl2 hl3 hl4 hok).mono fun _ _ h=>h.se
set_option maxHeartbeats 8000000 in
theorem way_rep (w0:World):Way 70 #[] reportC w0:=by
 intro s q c p gs gc w HG HST HC hne hok hgood hlen _
 obtain⟨hsm1,hsm2,hsm3,hsm4⟩:=ok_small hok
 have hq:=(stateOk_parts hok).2.2.2.1
 have hfit:=leasOk_fits (stOk_parts hq).1 (stOk_parts hq).2.1
 show Calls Tryz.prog 70 #[.pointer (some ⟨gs,0,none⟩),.pointer (some ⟨gc,0,none⟩)] w (WayPost w gs (reportC s c))
 have HIT:=Lib.hid (inI_wf hgood.2.2.2.1)
 have HFIT:=Lib.hid hfit
 obtain⟨t1,t2,t3,⟨a1,n1,c1⟩,⟨a2,n2,c2⟩,⟨a3,n3,c3⟩,⟨a4,n4,c4⟩⟩:=q
 have HG1:=Lib.hid (HG.next ((Below.refl w.heap.size w).alloc (Nat.le_refl _) (.cells #[.int .i64 0,.int .i64 0,.int .i64 0,.int .i64 0,.int .i64 0] 40)))
 have HC1:=Lib.hid (HC.next ((Below.refl w.heap.size w).alloc (Nat.le_refl _) (.cells #[.int .i64 0,.int .i64 0,.int .i64 0,.int .i64 0,.int .i64 0] 40)))
 have HS1:=Lib.hid (HST.below ((Below.refl w.heap.size w).alloc (Nat.le_refl _) (.cells #[.int .i64 0,.int .i64 0,.int .i64 0,.int .i64 0,.int .i64 0] 40)))
 have HA1:=Lib.hid (ans_new w)
 have HO1:=Lib.hid (Only.of (g:=gs) ((Below.refl w.heap.size w).alloc (Nat.le_refl _) (.cells #[.int .i64 0,.int .i64 0,.int .i64 0,.int .i64 0,.int .i64 0] 40)))
 have hgs:=HG.lt
 have hgc:=HC.box.lt
 have HQ:Hid (reportC s c=((reportS s c.shaper c.epoch c.lease c.spent c.closed).1,Ans.err (reportS s c.shaper c.epoch c.lease c.spent c.closed).2)):=rfl
 generalize reportC s c=res at HQ ⊢
 clear HG HC HST hok hq hfit hgood
 go_enter Tryz.func70,Tryz.ntmps70
 go_wp2
 obtain⟨w1,hw1⟩:∃x,x=w.alloc (.cells #[.int .i64 0,.int .i64 0,.int .i64 0,.int .i64 0,.int .i64 0] 40):=⟨_,rfl⟩
 rw[←hw1]at HG1 HC1 HS1 HA1 HO1 ⊢
 have hz1:w.heap.size< w1.heap.size:=by rw[hw1];simp
 clear hw1
 refine wrq (fun l w'=>(w'.cell? ⟨gc,6,none⟩=some (.int .i64 c.shaper)∧w'.cell? ⟨gc,7,none⟩=some (.int .i64 c.epoch)∧w'.cell? ⟨gc,8,none⟩=some (.int .i64 c.lease)∧w'.cell? ⟨gc,10,none⟩=some (.int .i64 c.spent)∧w'.cell? ⟨gc,11,none⟩=some (.bool c.closed))∧Till 29 l (w'.cell? ⟨gs,0,none⟩=some (.int .i64 t1)∧w'.cell? ⟨gs,1,none⟩=some (.int .i64 t2)∧w'.cell? ⟨gs,2,none⟩=some (.int .i64 t3)∧w'.cell? ⟨gs,3,none⟩=some (.slice a1 n1 c1)∧w'.cell? ⟨gs,4,none⟩=some (.slice a2 n2 c2)∧w'.cell? ⟨gs,5,none⟩=some (.slice a3 n3 c3)∧w'.cell? ⟨gs,6,none⟩=some (.slice a4 n4 c4))) ?_
 refine toS ⟨⟨HC1.out.box.box.cell (j:=6) rfl,HC1.out.box.box.cell (j:=7) rfl,HC1.out.box.box.cell (j:=8) rfl,HC1.out.box.box.cell (j:=10) rfl,HC1.out.box.box.cell (j:=11) rfl⟩,fun _=>⟨HG1.out.box.cell (j:=0) rfl,HG1.out.box.cell (j:=1) rfl,HG1.out.box.cell (j:=2) rfl,HG1.out.box.cell (j:=3) rfl,HG1.out.box.cell (j:=4) rfl,HG1.out.box.cell (j:=5) rfl,HG1.out.box.cell (j:=6) rfl⟩⟩ ?_
 refine ttq [] 0 ?_
 refine ttq [] 1 ?_
 refine ttq [] 2 ?_
 refine ttq [29] 3 ?_
 refine ttq [] 4 ?_
 refine ttq [] 5 ?_
 refine ttq [] 6 ?_
 refine ttq [29] 7 ?_
 refine ttq [] 8 ?_
 refine ttq [] 9 ?_
 refine ttq [] 10 ?_
 refine ttq [29] 11 ?_
 refine ttq [] 12 ?_
 refine ttq [] 13 ?_
 refine ttq [] 14 ?_
 refine ttq [29] 15 ?_
 refine ttq [] 16 ?_
 refine ttq [] 17 ?_
 refine ttq [] 18 ?_
 refine ttq [29] 19 ?_
 refine ttq [] 20 ?_
 refine ttq [] 21 ?_
 refine ttq [] 22 ?_
 refine ttq [29] 23 ?_
 refine soq 24 (fun K hK=> ?_)
 go_simp
 go_at_call 71
 with_reducible refine(report_st s _ 0 c.shaper c.epoch c.lease c.spent c.closed w1.drew (HS1.out.below ((Below.refl _ _).drew)) (by omega) (by omega) (by omega) (by omega)).mono ?_
 rintro e w2 ⟨⟨u1,u2,u3,⟨b1,m1,d1⟩,⟨b2,m2,d2⟩,⟨b3,m3,d3⟩,⟨b4,m4,d4⟩⟩,rfl,hst2,hbz⟩
 have hb2:Below w1.heap.size w1 w2:=⟨hbz.os,hbz.tape,hbz.output,hbz.size,hbz.block⟩
 clear hbz
 have HN2:=Lib.hid hst2
 clear hst2
 have HG2:=Lib.hid (HG1.out.next hb2)
 have HC2:=Lib.hid (HC1.out.next hb2)
 have HA2:=Lib.hid (HA1.out.next hb2)
 have HS2:=Lib.hid (HS1.out.below hb2)
 have HO2:=Lib.hid (HO1.out.next hb2)
 have hl2:=HG2.out.lt
 have hz2:w.heap.size< w2.heap.size:=HA2.out.lt
 generalize reportS s c.shaper c.epoch c.lease c.spent c.closed=pr at HN2 HQ ⊢
 obtain⟨prs,pre⟩:=pr
 refine hK.out _ _ ⟨⟨HC2.out.box.box.cell (j:=6) rfl,HC2.out.box.box.cell (j:=7) rfl,HC2.out.box.box.cell (j:=8) rfl,HC2.out.box.box.cell (j:=10) rfl,HC2.out.box.box.cell (j:=11) rfl⟩,fun _=>⟨HG2.out.box.cell (j:=0) rfl,HG2.out.box.cell (j:=1) rfl,HG2.out.box.cell (j:=2) rfl,HG2.out.box.cell (j:=3) rfl,HG2.out.box.cell (j:=4) rfl,HG2.out.box.cell (j:=5) rfl,HG2.out.box.cell (j:=6) rfl⟩⟩ ?_
 clear hK K
 refine ttq [] 25 ?_
 refine ttq [] 26 ?_
 refine ttq [] 27 ?_
 refine ttq [] 28 ?_
 refine soq 29 (fun K hK=> ?_)
 rw[if_pos (by rfl)]
 refine op_store_bex laySt (.tmp 33) (.tmp 31) rfl gs ⟨u1,u2,u3,⟨b1,m1,d1⟩,⟨b2,m2,d2⟩,⟨b3,m3,d3⟩,⟨b4,m4,d4⟩⟩ _ rfl rfl HG2.out rfl ?_
 intro w4 hx4 hw4
 have HG4:=Lib.hid hx4
 have HS4:=Lib.hid (HN2.out.wrote HG2.out (misfits_st _) hw4)
 have HC4:=Lib.hid (HC2.out.box.wrote hw4 (fun e=>hne e.symm))
 have HA4:=Lib.hid (HA2.out.wrote hw4 (by omega))
 have HO4:=Lib.hid (HO2.out.wrote hw4)
 clear hx4 hw4
 refine hK.out _ _ ⟨⟨HC4.out.box.cell (j:=6) rfl,HC4.out.box.cell (j:=7) rfl,HC4.out.box.cell (j:=8) rfl,HC4.out.box.cell (j:=10) rfl,HC4.out.box.cell (j:=11) rfl⟩,fun h=>absurd h (by decide)⟩ ?_
 clear hK K
 refine ttq [] 30 ?_
 refine soq 31 (fun K hK=> ?_)
 rw[if_pos (by rfl)]
 refine op_field_bex (.tmp 34) (.tmp 32) rfl size1_fields.2.2 w.heap.size 0 _ (.int .i64 pre) rfl rfl rfl rfl HA4.out (show 0<5 by decide) ?_
 intro w5 hx5 hw5
 have HA5:Hid (Bex w5 w.heap.size (Ans.cells (Ans.err pre))):=hx5
 have HG5:=Lib.hid (HG4.out.wrote hw5 (by omega))
 have HC5:=Lib.hid (HC4.out.wrote hw5 (by omega))
 have HS5:=Lib.hid (HS4.out.wrote HA4.out (misfits_ans _) hw5)
 have HO5:=Lib.hid (HO4.out.wroteNew hw5 (Nat.le_refl _))
 clear hx5 hw5
 refine hK.out _ _ ⟨⟨HC5.out.box.cell (j:=6) rfl,HC5.out.box.cell (j:=7) rfl,HC5.out.box.cell (j:=8) rfl,HC5.out.box.cell (j:=10) rfl,HC5.out.box.cell (j:=11) rfl⟩,fun h=>absurd h (by decide)⟩ ?_
 clear hK K
 refine sdq ?_
 go_wp2_with(first|((with_reducible refine at_load 40 (.tmp 4) ?_);refine wpList_load_as layAns rfl (.tmp 4) rfl w.heap.size 0 rfl (Ans.err pre) (.agg #[.int .i64 pre,.int .i64 0,.int .i64 0,.int .i64 0,.int .i64 0]) rfl HA5.out.box.range ?_)|((with_reducible refine at_store 40 (.tmp 4) (.tmp 35) ?_);refine wpList_store_bex layAns rfl (.tmp 4) (.tmp 35) rfl w.heap.size (Ans.err pre) _ rfl rfl HA5.out rfl ?_;intro w6 hx6 hw6;have HA6:=Lib.hid hx6;have HW6:=Lib.hid hw6;clear hx6 hw6))
 obtain⟨j0,j1,j2,j3,j4⟩:=ans_cells HA6.out
 refine bodyPost_ret (v:=Ans.agg (Ans.err pre)) (by simp[results,Tryz.results70,Ans.err,go_sem,j0,j1,j2,j3,j4]) rfl ?_
 rw[HQ.out]
 exact⟨rfl,_,HG5.out.wrote HW6.out (by omega),HS5.out.wrote HA5.out (misfits_ans _) HW6.out,HO5.out.wroteNew HW6.out (Nat.le_refl _)⟩
set_option maxHeartbeats 8000000 in
theorem way_exp (w0:World):Way 72 #[] expireC w0:=by
 intro s q c p gs gc w HG HST HC hne hok hgood hlen _
 obtain⟨hsm1,hsm2,hsm3,hsm4⟩:=ok_small hok
 have hq:=(stateOk_parts hok).2.2.2.1
 have hfit:=leasOk_fits (stOk_parts hq).1 (stOk_parts hq).2.1
 show Calls Tryz.prog 72 #[.pointer (some ⟨gs,0,none⟩),.pointer (some ⟨gc,0,none⟩)] w (WayPost w gs (expireC s c))
 have HIT:=Lib.hid (inI_wf hgood.2.2.2.1)
 have HFIT:=Lib.hid hfit
 have HRW:=Lib.hid HC.row
 obtain⟨t1,t2,t3,⟨a1,n1,c1⟩,⟨a2,n2,c2⟩,⟨a3,n3,c3⟩,⟨a4,n4,c4⟩⟩:=q
 have HG1:=Lib.hid (HG.next ((Below.refl w.heap.size w).alloc (Nat.le_refl _) (.cells #[.int .i64 0,.int .i64 0,.int .i64 0,.int .i64 0,.int .i64 0] 40)))
 have HC1:=Lib.hid (HC.next ((Below.refl w.heap.size w).alloc (Nat.le_refl _) (.cells #[.int .i64 0,.int .i64 0,.int .i64 0,.int .i64 0,.int .i64 0] 40)))
 have HS1:=Lib.hid (HST.below ((Below.refl w.heap.size w).alloc (Nat.le_refl _) (.cells #[.int .i64 0,.int .i64 0,.int .i64 0,.int .i64 0,.int .i64 0] 40)))
 have HA1:=Lib.hid (ans_new w)
 have HO1:=Lib.hid (Only.of (g:=gs) ((Below.refl w.heap.size w).alloc (Nat.le_refl _) (.cells #[.int .i64 0,.int .i64 0,.int .i64 0,.int .i64 0,.int .i64 0] 40)))
 have hgs:=HG.lt
 have hgc:=HC.box.lt
 have HQ:Hid (expireC s c=(expireS s c.leases,Ans.err 0)):=rfl
 generalize expireC s c=res at HQ ⊢
 clear HG HC HST hok hq hfit hgood
 go_enter Tryz.func72,Tryz.ntmps72
 go_wp2
 obtain⟨w1,hw1⟩:∃x,x=w.alloc (.cells #[.int .i64 0,.int .i64 0,.int .i64 0,.int .i64 0,.int .i64 0] 40):=⟨_,rfl⟩
 rw[←hw1]at HG1 HC1 HS1 HA1 HO1 ⊢
 have hz1:w.heap.size< w1.heap.size:=by rw[hw1];simp
 clear hw1
 refine wrq (fun l w'=>(w'.cell? ⟨gc,12,none⟩=some (.slice p.1 c.leases.length p.2))∧Till 10 l (w'.cell? ⟨gs,0,none⟩=some (.int .i64 t1)∧w'.cell? ⟨gs,1,none⟩=some (.int .i64 t2)∧w'.cell? ⟨gs,2,none⟩=some (.int .i64 t3)∧w'.cell? ⟨gs,3,none⟩=some (.slice a1 n1 c1)∧w'.cell? ⟨gs,4,none⟩=some (.slice a2 n2 c2)∧w'.cell? ⟨gs,5,none⟩=some (.slice a3 n3 c3)∧w'.cell? ⟨gs,6,none⟩=some (.slice a4 n4 c4))) ?_
 refine toS ⟨HC1.out.box.box.cell (j:=12) rfl,fun _=>⟨HG1.out.box.cell (j:=0) rfl,HG1.out.box.cell (j:=1) rfl,HG1.out.box.cell (j:=2) rfl,HG1.out.box.cell (j:=3) rfl,HG1.out.box.cell (j:=4) rfl,HG1.out.box.cell (j:=5) rfl,HG1.out.box.cell (j:=6) rfl⟩⟩ ?_
 refine ttq [] 0 ?_
 refine ttq [] 1 ?_
 refine ttq [] 2 ?_
 refine ttq [10] 3 ?_
 refine ttq [] 4 ?_
 refine ttq [] 5 ?_
 refine ttq [] 6 ?_
 refine ttq [10] 7 ?_
 refine soq 8 (fun K hK=> ?_)
 go_simp
 go_at_call 73
 with_reducible refine(expire_st s _ 0 c.leases p.1 c.leases.length p.2 w1.drew (HS1.out.below ((Below.refl _ _).drew)) (by omega) (by omega) (by omega) (by omega) rfl hlen (HC1.out.row.below ((Below.refl _ _).drew))).mono ?_
 rintro e w2 ⟨⟨u1,u2,u3,⟨b1,m1,d1⟩,⟨b2,m2,d2⟩,⟨b3,m3,d3⟩,⟨b4,m4,d4⟩⟩,rfl,hst2,hbz⟩
 have hb2:Below w1.heap.size w1 w2:=⟨hbz.os,hbz.tape,hbz.output,hbz.size,hbz.block⟩
 clear hbz
 have HN2:=Lib.hid hst2
 clear hst2
 have HG2:=Lib.hid (HG1.out.next hb2)
 have HC2:=Lib.hid (HC1.out.next hb2)
 have HA2:=Lib.hid (HA1.out.next hb2)
 have HS2:=Lib.hid (HS1.out.below hb2)
 have HO2:=Lib.hid (HO1.out.next hb2)
 have hl2:=HG2.out.lt
 have hz2:w.heap.size< w2.heap.size:=HA2.out.lt
 generalize expireS s c.leases=pr at HN2 HQ ⊢
 refine hK.out _ _ ⟨HC2.out.box.box.cell (j:=12) rfl,fun _=>⟨HG2.out.box.cell (j:=0) rfl,HG2.out.box.cell (j:=1) rfl,HG2.out.box.cell (j:=2) rfl,HG2.out.box.cell (j:=3) rfl,HG2.out.box.cell (j:=4) rfl,HG2.out.box.cell (j:=5) rfl,HG2.out.box.cell (j:=6) rfl⟩⟩ ?_
 clear hK K
 refine ttq [] 9 ?_
 refine soq 10 (fun K hK=> ?_)
 rw[if_pos (by rfl)]
 refine op_store_bex laySt (.tmp 14) (.tmp 13) rfl gs ⟨u1,u2,u3,⟨b1,m1,d1⟩,⟨b2,m2,d2⟩,⟨b3,m3,d3⟩,⟨b4,m4,d4⟩⟩ _ rfl rfl HG2.out rfl ?_
 intro w4 hx4 hw4
 have HG4:=Lib.hid hx4
 have HS4:=Lib.hid (HN2.out.wrote HG2.out (misfits_st _) hw4)
 have HC4:=Lib.hid (HC2.out.box.wrote hw4 (fun e=>hne e.symm))
 have HA4:=Lib.hid (HA2.out.wrote hw4 (by omega))
 have HO4:=Lib.hid (HO2.out.wrote hw4)
 clear hx4 hw4
 refine hK.out _ _ ⟨HC4.out.box.cell (j:=12) rfl,fun h=>absurd h (by decide)⟩ ?_
 clear hK K
 refine sdq ?_
 go_wp2_with(first|((with_reducible refine at_store 40 (.tmp 4) (.tmp 15) ?_);refine wpList_store_bex layAns rfl (.tmp 4) (.tmp 15) rfl w.heap.size (Ans.err 0) _ rfl rfl HA4.out rfl ?_;intro w6 hx6 hw6;have HA6:=Lib.hid hx6;have HW6:=Lib.hid hw6;clear hx6 hw6))
 obtain⟨j0,j1,j2,j3,j4⟩:=ans_cells HA6.out
 refine bodyPost_ret (v:=Ans.agg (Ans.err 0)) (by simp[results,Tryz.results72,Ans.err,go_sem,j0,j1,j2,j3,j4]) rfl ?_
 rw[HQ.out]
 exact⟨rfl,_,HG4.out.wrote HW6.out (by omega),HS4.out.wrote HA4.out (misfits_ans _) HW6.out,HO4.out.wroteNew HW6.out (Nat.le_refl _)⟩
abbrev fnV (F:FuncId):Value:= .func (.func F) #[] #[]
abbrev cliV (g:Nat):Value:= .func (.func 112) #[] #[.pointer (some ⟨g,0,none⟩)]
def RetCli (w:World) (F:FuncId) (e:Ending) (w':World):Prop:= ∃g,e= .returned (cliV g)∧Bex w' g [fnV F]∧w.heap.size≤ g∧Below w.heap.size w w'
theorem client_any (F:FuncId) (w:World):Calls Tryz.prog 62 #[fnV F] w (RetCli w F):=by
 have hmf:∀(fn:Fn) (first cap:Array Value) (w:World),(Instr.makeFunc fn first cap).run Tryz.prog w= .ok (.func fn first cap) w:=fun _ _ _ _=>rfl
 have HG:Hid (Bex (w.alloc (.cells #[fnV F] 69)) w.heap.size [fnV F]):=Bex.new w [fnV F] _
 have HB:Hid (Below w.heap.size w (w.alloc (.cells #[fnV F] 69))):=(Below.refl _ _).alloc (Nat.le_refl _) _
 go_enter Tryz.func62,Tryz.ntmps62
 go_wp2
 go_returns
 exact⟨w.heap.size,rfl,HG.out,Nat.le_refl _,HB.out⟩
abbrev waysV (g1 g2 g3:Nat):List Value:=[.nilFunc,cliV g1,cliV g2,cliV g3,fnV 69,fnV 70,fnV 72]
def layWays:Lay Tryz.prog 70 (Nat×Nat× Nat):=Lay.struct (fun x=>waysV x.1 x.2.1 x.2.2) 7 56 (fun _=>rfl) (by decide) (by decide) (fun x u hu=>by simp at hu;rcases hu with h|h| h|h| h|h| h<;>subst h<;>rfl) (by kernel_rfl) _ Tryz.underlying70 rfl
def RetWays (w:World) (e:Ending) (w':World):Prop:= ∃g1 g2 g3,e= .returned (.agg (waysV g1 g2 g3).toArray)∧Bex w' g1 [fnV 63]∧Bex w' g2 [fnV 65]∧Bex w' g3 [fnV 67]∧Below w.heap.size w w'
set_option maxHeartbeats 4000000 in
theorem ways_any (w:World):Calls Tryz.prog 30 #[] w (RetWays w):=by
 have HZ0:Hid (Bex (w.alloc (.cells #[.nilFunc,.nilFunc,.nilFunc,.nilFunc,.nilFunc,.nilFunc,.nilFunc] 70)) w.heap.size [.nilFunc,.nilFunc,.nilFunc,.nilFunc,.nilFunc,.nilFunc,.nilFunc]):=Bex.new w _ _
 have HB0:Hid (Below w.heap.size w (w.alloc (.cells #[.nilFunc,.nilFunc,.nilFunc,.nilFunc,.nilFunc,.nilFunc,.nilFunc] 70))):=(Below.refl _ _).alloc (Nat.le_refl _) _
 go_enter Tryz.func30,Tryz.ntmps30
 go_wp2_with(first|(go_at_call 62;((with_reducible refine(client_any 63 _).mono ?_);rintro e w1 ⟨g1,rfl,h1,hg1,hb1⟩;have HF1:=Lib.hid h1;have HZ1:=Lib.hid (HZ0.out.next hb1);have HB1:=Lib.hid (HB0.out.trans (hb1.mono HB0.out.size));clear h1 hb1))|(go_at_call 62;((with_reducible refine(client_any 65 _).mono ?_);rintro e w2 ⟨g2,rfl,h2,hg2,hb2⟩;have hs12:=hb2.size;have HF2:=Lib.hid h2;replace HF1:=Lib.hid (HF1.out.next hb2);have HZ2:=Lib.hid (HZ1.out.next hb2);have HB2:=Lib.hid (HB1.out.trans (hb2.mono HB1.out.size));clear h2 hb2))|(go_at_call 62;((with_reducible refine(client_any 67 _).mono ?_);rintro e w3 ⟨g3,rfl,h3,hg3,hb3⟩;have hs23:=hb3.size;have HF3:=Lib.hid h3;replace HF1:=Lib.hid (HF1.out.next hb3);replace HF2:=Lib.hid (HF2.out.next hb3);have HZ3:=Lib.hid (HZ2.out.next hb3);have HB3:=Lib.hid (HB2.out.trans (hb3.mono HB2.out.size));clear h3 hb3))|((with_reducible refine at_store 70 (.tmp 0) (.tmp 4) ?_);refine wpList_store_bex layWays rfl (.tmp 0) (.tmp 4) rfl w.heap.size (g1,g2,g3) _ rfl rfl HZ3.out rfl ?_;intro w4 hx hw;have HX:=Lib.hid hx;have HW:=Lib.hid hw;clear hx hw))
 have c0:=HX.out.box.cell (j:=0) rfl
 have c1:=HX.out.box.cell (j:=1) rfl
 have c2:=HX.out.box.cell (j:=2) rfl
 have c3:=HX.out.box.cell (j:=3) rfl
 have c4:=HX.out.box.cell (j:=4) rfl
 have c5:=HX.out.box.cell (j:=5) rfl
 have c6:=HX.out.box.cell (j:=6) rfl
 have s1:=HB1.out.size
 have s2:=HB2.out.size
 refine bodyPost_ret (v:= .agg (waysV g1 g2 g3).toArray) (by simp[results,Tryz.results30,go_sem,c0,c1,c2,c3,c4,c5,c6]) rfl ?_
 have hz:w.heap.size< w1.heap.size:=HZ1.out.lt
 have hz0:(w.alloc (.cells #[.nilFunc,.nilFunc,.nilFunc,.nilFunc,.nilFunc,.nilFunc,.nilFunc] 70)).heap.size=w.heap.size+ 1:=by simp
 have hz1:=HF1.out.lt
 exact⟨g1,g2,g3,rfl,HF1.out.wrote HW.out (by omega),HF2.out.wrote HW.out (by have:=HZ2.out.lt;omega),HF3.out.wrote HW.out (by have:=HZ3.out.lt;omega),HB3.out.trans (HW.out.below _ (Nat.le_refl _))⟩
theorem way_grant (w0:World):Way 69 #[] grantC w0:=by
 intro s q c p gs gc w HG HST HC hne hok hgood hlen _
 show Calls Tryz.prog 69 #[.pointer (some ⟨gs,0,none⟩),.pointer (some ⟨gc,0,none⟩)] w (WayPost w gs (grantC s c))
 by_cases hb:deskBad c
 ·rw[grantC_bad hb];exact grant_bad s q c p gs gc w HG HST HC hne hok hgood hb
 ·cases hf:findK Desk.shaper s.dsks c.shaper with
  |none=> rw[grantC_far hb hf];exact grant_far s q c p gs gc w HG HST HC hne hok hgood hb hf
  |some d=>
   by_cases ho:deskOld c d
   ·rw[grantC_old hb hf ho];exact grant_old s q c p gs gc w HG HST HC hne hok hgood hb d hf ho
   ·by_cases ht:deskTold c d
    ·rw[grantC_told hb hf ho ht];exact grant_told s q c p gs gc w HG HST HC hne hok hgood hb d hf ht
    ·rw[grantC_here hb hf ho ht];exact grant_here s q c p gs gc w HG HST HC hne hok hgood hb d hf ho ht
theorem enter_w1 (args:Array Value) (w:World):(callFunc 63 args).run Tryz.prog w= .ok (.enter 63 args) w:=by kernel_rfl
theorem enter_w2 (args:Array Value) (w:World):(callFunc 65 args).run Tryz.prog w= .ok (.enter 65 args) w:=by kernel_rfl
theorem enter_w3 (args:Array Value) (w:World):(callFunc 67 args).run Tryz.prog w= .ok (.enter 67 args) w:=by kernel_rfl
theorem ses301 {s:St} (h:stateOk s=true):s.sess.length≤ 301:=(ok_small h).ses
theorem way_cput (w0:World) (g:Nat) (hd:Bex w0 g [fnV 63]):Way 112 #[.pointer (some ⟨g,0,none⟩)] (clientC putC) w0:=way_client _ _ w0 g hd enter_w1 way_put (fun s _ h=>show s.sess.length≤301 from ses301 h)
theorem way_cget (w0:World) (g:Nat) (hd:Bex w0 g [fnV 65]):Way 112 #[.pointer (some ⟨g,0,none⟩)] (clientC getC) w0:=way_client _ _ w0 g hd enter_w2 way_get (fun s _ h=>show s.sess.length≤301 from ses301 h)
theorem way_cdel (w0:World) (g:Nat) (hd:Bex w0 g [fnV 67]):Way 112 #[.pointer (some ⟨g,0,none⟩)] (clientC delC) w0:=way_client _ _ w0 g hd enter_w3 way_del (fun s _ h=>show s.sess.length≤301 from ses301 h)
def Caught (gx ga ge f:Nat) (zs:List Value) (w w':World):Prop:= Keep (fun k=>k= gx∨k= ga∨k= ge∨w.heap.size≤ k) w w'∧Box w' gx zs∧Box w' ga [.int .i64 f]∧Box w' ge [.int .i64 50]
def RetCaught (gx ga ge f:Nat) (zs:List Value) (w:World) (e:Ending) (u':FrameMode) (w':World):Prop:= e= .returned (.tuple #[])∧u'= .panicking [{v:= .iface 143 (.agg #[.int .i64 f]),recovered:=true}]∧Caught gx ga ge f zs w w'
theorem caught_of {gx ga ge f:Nat} {cs zs:List Value} {w:World} {o1 o2:Obj} (hx:Box w gx cs) (hl:cs.length= zs.length) (h0:0< zs.length) (ha:Box w ga [.int .i64 0]) (he:Box w ge [.int .i64 0]) (h1:gx≠ ga) (h2:gx≠ ge) (h3:ga≠ ge):
 Caught gx ga ge f zs w ((((((w.setCells gx 0 zs).setCell ⟨ga,0,none⟩ (.int .i64 f)).setCell ⟨ge,0,none⟩ (.int .i64 50)).alloc o1).alloc o2).drew):=by
 have hw:Below ((((w.setCells gx 0 zs).setCell ⟨ga,0,none⟩ (.int .i64 f)).setCell ⟨ge,0,none⟩ (.int .i64 50))).heap.size (((w.setCells gx 0 zs).setCell ⟨ga,0,none⟩ (.int .i64 f)).setCell ⟨ge,0,none⟩ (.int .i64 50)) ((((((w.setCells gx 0 zs).setCell ⟨ga,0,none⟩ (.int .i64 f)).setCell ⟨ge,0,none⟩ (.int .i64 50)).alloc o1).alloc o2).drew):=(mid_alloc' (mid_alloc' (Below.refl _ _))).drew
 refine⟨?_,?_,?_,?_⟩
 ·exact((((Keep.refl _ w).sets (.inl rfl) zs 0).set _ _ (.inr (.inl rfl))).set _ _ (.inr (.inr (.inl rfl)))).trans ((Keep.of (S:=fun k=>(((w.setCells gx 0 zs).setCell ⟨ga,0,none⟩ (.int .i64 f)).setCell ⟨ge,0,none⟩ (.int .i64 50)).heap.size≤k) hw).mono (fun k hk e=>absurd e (by omega)))
 ·exact((((hx.whole hl.symm).far (fun e=>h1 e.symm) _).far (fun e=>h2 e.symm) _)).next h0 hw
 ·exact((((ha.block (setCells_keep gx zs 0 w ga (fun e=>h1 e.symm))).set (i:=0) (by simp) _).far (fun e=>h3 e.symm) _)).next (by simp) hw
 ·exact((((he.block (setCells_keep gx zs 0 w ge (fun e=>h2 e.symm))).far (p:=⟨ga,0,none⟩) h3 _).set (i:=0) (by simp) _)).next (by simp) hw
theorem Grew.bel {w W w':World} {g:Nat} {a':Option Addr} (h:Grew g none a' W w') (hb:Below w.heap.size w W) (hg:w.heap.size≤ g):Below w.heap.size w w':=
 ⟨h.os.trans hb.os,h.tape.trans hb.tape,h.output.trans hb.output,Nat.le_trans hb.size h.size,fun k hk=>by rw[h.keep k (Nat.lt_of_lt_of_le hk hb.size) (by omega) (fun o s e=>by cases e)];exact hb.block k hk⟩
def RetBC (w:World) (l:List UInt8) (e:Ending) (w':World):Prop:= ∃a c,e= .returned (.slice a l.length c)∧RowB w' a l∧Below w.heap.size w w'∧l.length≤ c
end Go.Proofs.YtfdmhpohfjbpfaaGreat
