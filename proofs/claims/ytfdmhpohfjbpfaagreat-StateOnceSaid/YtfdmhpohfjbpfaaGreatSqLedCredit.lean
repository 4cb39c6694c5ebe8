import Derived.Test.YtfdmhpohfjbpfaaGreatSq14
set_option linter.unusedVariables false
set_option linter.unusedSimpArgs false
namespace Go.Proofs.YtfdmhpohfjbpfaaGreat
open Go.ChangeShapes Go.WideShapes Go.ChangeAt Go.RowKit
set_option maxRecDepth 100000
theorem OutMap.run {w:World} {B b n:Nat} {f:Int→ Option Int} {ls:List Lease} (h:OutMap w B b n f ls) {id:Int} (hid:(Lit.int .i64 id).wf=true):(Instr.lookup 100 (.map (some b)) (.int .i64 id) false).run Tryz.prog w= .ok (.int .i64 (outL ls id)) w:=by
 obtain⟨D,hD,hf⟩:=h.map
 obtain⟨h1,_⟩:=hf id hid
 obtain⟨c,hrun,hat,_⟩:=hD.lookup_int keyI.keyed Tryz.underlying100 Tryz.underlying3 (zero_i w) (keyI.key id hid)
 rw[h1,h.out]at hat
 simp only[DataW.lit.injEq,Lit.int.injEq,true_and]at hat
 rw[hat];exact hrun
theorem OutMap.only {w w':World} {B b n g:Nat} {f:Int→ Option Int} {ls:List Lease} (h:OutMap w B b n f ls) (hk:Only g w w') (hne:b≠ g):OutMap w' B b n f ls:=by
 have hlt:=h.map.lt
 obtain⟨D,⟨es,clock,h1,h2⟩,hf⟩:=h.map
 exact⟨⟨D,⟨es,clock,by rw[hk.block b hlt hne];exact h1,h2⟩,hf⟩,h.out,h.base,h.small⟩
theorem OutMap.ne {P:Program} {e:TypeId} {α:Type} {L:Lay P e α} {w:World} {B b n g B':Nat} {f:Int→ Option Int} {ls:List Lease} {xs:List α} (h:OutMap w B b n f ls) (hm:Mine L w B' g 0 xs) (h0:xs≠ []):b≠ g:=by
 rintro rfl
 obtain⟨D,⟨es,clock,h1,_⟩,_⟩:=h.map
 have hpos:0< (xs.flatMap L.cells).length:=by rw[L.length];exact Nat.mul_pos (List.length_pos_iff.2 h0) L.pos
 have:=hm.box.cell (j:=0) (List.getElem?_eq_getElem hpos)
 simp[World.cell?,h1]at this
theorem cellsTen0 {w:World} {b:Nat} {t:Tenant} (h:w.rangeAt b 0 t.cells):w.cell? ⟨b,0,none⟩=some (.int .i64 t.id)∧w.cell? ⟨b,1,none⟩=some (.int .i64 t.rate)∧w.cell? ⟨b,2,none⟩=some (.int .i64 t.burst)∧w.cell? ⟨b,3,none⟩=some (.int .i64 t.bucket)∧w.cell? ⟨b,4,none⟩=some (.bool t.gone):=by
 have h0:=h 0 _ rfl
 have h1:=h 1 _ rfl
 have h2:=h 2 _ rfl
 have h3:=h 3 _ rfl
 have h4:=h 4 _ rfl
 simp only[Nat.zero_add]at h0 h1 h2 h3 h4
 exact⟨h0,h1,h2,h3,h4⟩
theorem OwnSli.mine {P:Program} {e:TypeId} {α:Type} {L:Lay P e α} {w:World} {B:Nat} {a:Option Addr} {n c:Nat} {xs:List α} (ho:OwnSli L w B ⟨a,n,c⟩ xs) (hn:xs.length= n) (hB:B≤ w.heap.size):
 ∃g,B≤g∧ (xs≠[]→a= some ⟨g,0,none⟩∧g< w.heap.size)∧(xs≠[]→Mine L w B g 0 xs)∧((∃o q,a=some ⟨g,o,q⟩)∨g= w.heap.size):=by
 subst hn
 by_cases h0:xs= []
 ·exact⟨w.heap.size,hB,fun h=>absurd h0 h,fun h=>absurd h0 h,.inr rfl⟩
 ·have hown:=ho.own (List.length_pos_iff.2 h0)
  obtain⟨g,rfl,hg,_⟩:=own_head hown (by intro h1;have:=congrArg List.length h1;rw[L.length,List.length_nil,Nat.mul_eq_zero]at this;have hp:=L.pos;rcases this with h|h;exact h0 (List.eq_nil_of_length_eq_zero h);omega)
  have hm:=Mine.of_own (L:=L) hown
  exact⟨g,hg,fun _=>⟨rfl,hm.lt h0⟩,fun _=>hm,.inl ⟨0,none,rfl⟩⟩
theorem credT_at {ts:List Tenant} {ls:List Lease} {ticks:Int} {k:Nat} (hk:k< ts.length):((ts.take k).map (credT ls ticks)++ts.drop k).length=ts.length∧ ((ts.take k).map (credT ls ticks)++ts.drop k)[k]? =some ts[k]∧
 ((ts.take k).map (credT ls ticks)++ts.drop k).set k (credT ls ticks ts[k])=(ts.take (k+1)).map (credT ls ticks)++ts.drop (k+1):=by
 have hlen:((ts.take k).map (credT ls ticks)).length=k:= by simp;omega
 refine⟨by simp;omega,?_,?_⟩
 ·rw[List.getElem?_append_right (by omega),hlen];simp[hk]
 ·rw[List.set_append_right _ _ (by omega),hlen,Nat.sub_self,List.take_succ_eq_append_getElem hk,List.map_append,List.drop_eq_getElem_cons hk];simp only[List.map_cons,List.map_nil,List.append_assoc,List.set_cons_zero,List.cons_append,List.nil_append]
theorem stOk_ten {s:St} (h:stOk s=true):tensOk 0 s.tens=true∧ Fits s.leas:=by
 unfold stOk at h
 simp only[Bool.and_eq_true]at h
 exact⟨h.1.1,leasOk_fits h.1.1 h.1.2.1⟩
theorem Mine.setOne {P:Program} {e:TypeId} {α:Type} {L:Lay P e α} {w:World} {B g k r:Nat} {xs:List α} {v:Value} {z:α} (h:Mine L w B g 0 xs) (hk:k< xs.length) (hr:r< L.size) (hz:L.cells z=(L.cells xs[k]).set r v):Mine L (w.setCell ⟨g,k*L.size+ r,none⟩ v) B g 0 (xs.set k z):=by
 refine .of_box h.1 ?_
 rw[flatMap_setOne hk hr hz]
 refine h.box.set ?_ v
 rw[L.length]
 have:=Nat.mul_le_mul_right L.size (Nat.succ_le_of_lt hk)
 rw[Nat.succ_mul]at this;omega
theorem Only.cellOf {g:Nat} {w w':World} (h:Only g w w') {p:Addr} (h1:p.block< w.heap.size) (h2:p.block≠ g):w'.cell? p=w.cell? p:=World.cell?_of_block (h.block _ h1 h2)
theorem wrote_setCell (w:World) (g i:Nat) (v:Value):Wrote g w (w.setCell ⟨g,i,none⟩ v):=⟨fun B hB=>(Below.refl B w).setCell (p:=⟨g,i,none⟩) hB v,by simp,fun k hk=>Below.heap_setCell _ _ _ _ (fun e=>hk e)⟩
set_option maxHeartbeats 4000000 in
theorem credit_st_gen (s:St) (r:Raw) (B:Nat) (ticks:Int) (w:World) (h:StAt w B r s) (hl1:s.tens.length≤ 900) (hl2:s.leas.length≤ 900) (hl3:s.sess.length≤ 900) (hl4:s.dsks.length≤ 900) (BB:Nat) (hBB:BB= 0∨(stOk s=true∧ BB≤w.heap.size)):
 Calls Tryz.prog 28 #[r.agg,.int .i64 ticks] w (RetSt w BB (creditS s ticks)):=by
 have HBB:=Lib.hid hBB
 clear hBB
 have hmf:∀(fn:Fn) (first cap:Array Value) (w:World),(Instr.makeFunc fn first cap).run Tryz.prog w= .ok (.func fn first cap) w:=fun _ _ _ _=>rfl
 have HS:=Lib.hid h
 have HL:=Lib.hid (And.intro hl1 (And.intro hl2 (And.intro hl3 hl4)))
 have HCK:=Lib.hid (fun w' (hb:Below w.heap.size w w')=>check_st s r B w' (h.below hb) hl1 hl2)
 have HCP:=Lib.hid (fun w' (hb:Below w.heap.size w w')=>copied_st s r B w' (h.below hb) hl1 hl2 hl3 hl4)
 have HOU:=Lib.hid (fun(hf:Fits s.leas) w' (hb:Below w.heap.size w w')=>outs_any s.leas r w' h.lea.len (by omega) hf (h.lea.row.below hb))
 have HE:Hid (creditS s ticks=if stOk s=true then sweptS {s with tens:=s.tens.map (credT s.leas ticks)}else s):=rfl
 generalize creditS s ticks=res at HE ⊢
 obtain⟨term,stamp,next,⟨a1,n1,c1⟩,⟨a2,n2,c2⟩,⟨a3,n3,c3⟩,⟨a4,n4,c4⟩⟩:=r
 have HBX:Hid (∀w',Below ((w.alloc (.cells #[.int .i64 term,.int .i64 stamp,.int .i64 next,.slice a1 n1 c1,.slice a2 n2 c2,.slice a3 n3 c3,.slice a4 n4 c4] 27)).alloc (.cells #[.int .i64 0,.int .i64 0,.int .i64 0,.slice none 0 0,.slice none 0 0,.slice none 0 0,.slice none 0 0] 27)).heap.size ((w.alloc (.cells #[.int .i64 term,.int .i64 stamp,.int .i64 next,.slice a1 n1 c1,.slice a2 n2 c2,.slice a3 n3 c3,.slice a4 n4 c4] 27)).alloc (.cells #[.int .i64 0,.int .i64 0,.int .i64 0,.slice none 0 0,.slice none 0 0,.slice none 0 0,.slice none 0 0] 27)) w'→
  Box w' w.heap.size (Raw.cells ⟨term,stamp,next,⟨a1,n1,c1⟩,⟨a2,n2,c2⟩,⟨a3,n3,c3⟩,⟨a4,n4,c4⟩⟩)∧Box w' (w.heap.size+1) (Raw.cells ⟨0,0,0,⟨none,0,0⟩,⟨none,0,0⟩,⟨none,0,0⟩,⟨none,0,0⟩⟩)∧w.heap.size+ 2≤w'.heap.size):=
  fun w' hb=>⟨Box.of_alloc (mid_alloc' hb),Box.of_alloc1 hb,by have:=hb.size;simp at this;omega⟩
 clear h hl1 hl2 hl3 hl4
 cases hok:stOk s with
 |false=>
  have HB0:Hid (BB=0):=Lib.hid (by
   rcases HBB.out with h|⟨h,_⟩
   ·exact h
   ·rw[hok]at h;cases h)
  have HOK:=Lib.hid hok
  have HO:Hid (res=s):=by show _=_;rw[HE.out,if_neg (by rw[hok];simp)]
  clear hok HE HCP HOU
  go_enter_defers Tryz.func28,Tryz.ntmps28
  go_wp2_with(first|(refine wpList_load_as laySt rfl (.tmp 2) rfl w.heap.size 0 rfl ⟨term,stamp,next,⟨a1,n1,c1⟩,⟨a2,n2,c2⟩,⟨a3,n3,c3⟩,⟨a4,n4,c4⟩⟩ (.agg #[.int .i64 term,.int .i64 stamp,.int .i64 next,.slice a1 n1 c1,.slice a2 n2 c2,.slice a3 n3 c3,.slice a4 n4 c4]) rfl (HBX.out _ belo).1.range ?_)|(go_at_call 43;((with_reducible refine(HCK.out _ belo).mono ?_);rw[HOK.out];rintro e w3 ⟨rfl,hb3⟩;have HX3:=Lib.hid (HBX.out w3 belo)))|(refine wpList_store_whole laySt rfl (.tmp 4) (.tmp 11) rfl (w.heap.size+1) ⟨term,stamp,next,⟨a1,n1,c1⟩,⟨a2,n2,c2⟩,⟨a3,n3,c3⟩,⟨a4,n4,c4⟩⟩ _ rfl rfl HX3.out.2.1 rfl ?_;intro w4 hb4 hw4;have HX4:=Lib.hid hb4;have HW4:=Lib.hid hw4;clear hb4 hw4))
  have b3:Below w.heap.size w w3:=belo
  have b4:Below w.heap.size w w4:=b3.trans (HW4.out.below _ (by omega))
  obtain⟨k0,k1,k2,k3,k4,k5,k6⟩:=cellsSt0 HX4.out.range
  refine⟨.agg #[.int .i64 term,.int .i64 stamp,.int .i64 next,.slice a1 n1 c1,.slice a2 n2 c2,.slice a3 n3 c3,.slice a4 n4 c4],by simp[results,Tryz.results28,go_sem,k0,k1,k2,k3,k4,k5,k6],⟨term,stamp,next,⟨a1,n1,c1⟩,⟨a2,n2,c2⟩,⟨a3,n3,c3⟩,⟨a4,n4,c4⟩⟩,rfl,?_,b4⟩
  rw[HO.out]
  exact(HS.out.below b4).mono (Nat.le_trans (Nat.le_of_eq HB0.out) (Nat.zero_le _))
 |true=>
  have HOK:=Lib.hid hok
  have HO:Hid (res=sweptS {s with tens:=s.tens.map (credT s.leas ticks)}):=by show _=_;rw[HE.out,if_pos hok]
  have HFIT:=Lib.hid (stOk_ten hok).2
  have HTEN:=Lib.hid (fun x hx=>ten_range (x:=x) (stOk_ten hok).1 hx)
  clear hok HE
  go_enter_defers Tryz.func28,Tryz.ntmps28
  go_wp2_with(first|(refine wpList_load_as laySt rfl (.tmp 2) rfl w.heap.size 0 rfl ⟨term,stamp,next,⟨a1,n1,c1⟩,⟨a2,n2,c2⟩,⟨a3,n3,c3⟩,⟨a4,n4,c4⟩⟩ (.agg #[.int .i64 term,.int .i64 stamp,.int .i64 next,.slice a1 n1 c1,.slice a2 n2 c2,.slice a3 n3 c3,.slice a4 n4 c4]) rfl (by first|exact HZ5.out.range|exact (HBX.out _ belo).1.range) ?_)|(go_at_call 43;((with_reducible refine(HCK.out _ belo).mono ?_);rw[HOK.out];rintro e w3 ⟨rfl,hb3⟩;have HX3:=Lib.hid (HBX.out w3 belo)))|(go_at_call 57;((with_reducible refine(HCP.out _ belo).mono ?_);rintro e w4 ⟨⟨t4,s4,n4',⟨x1,m1,y1⟩,⟨x2,m2,y2⟩,⟨x3,m3,y3⟩,⟨x4,m4,y4⟩⟩,rfl,hst4,hb4⟩;have HST4:=Lib.hid hst4;have HX4:=Lib.hid (HBX.out w4 belo);clear hst4))|(refine wpList_store_whole laySt rfl (.tmp 4) (.tmp 14) rfl (w.heap.size+1) ⟨t4,s4,n4',⟨x1,m1,y1⟩,⟨x2,m2,y2⟩,⟨x3,m3,y3⟩,⟨x4,m4,y4⟩⟩ _ rfl rfl HX4.out.2.1 rfl ?_;intro w5 hbx5 hw5;have HX5:=Lib.hid hbx5;have HW5:=Lib.hid hw5;have q3:=HX3.out.2.2;have HST5:=Lib.hid (HST4.out.mid (Mid.wrote (Mid.refl w3.heap.size w4.heap.size w4) hw5 (.inl (by omega))) (Nat.le_refl _) (Nat.le_refl _));have HZ5:=Lib.hid (HX4.out.1.wrote hw5 (by omega));have hb5:Below (w.heap.size+1) w4 w5:=hw5.below _ (Nat.le_refl _);have hb45:Below w.heap.size w w5:=Below.trans (show Below w.heap.size w w4 from belo) (hb5.mono (by omega));have q5:w5.heap.size= w4.heap.size:=hw5.size;have q34:=hb4.size;clear hbx5 hw5)|(go_at_call 58;((with_reducible refine(HOU.out HFIT.out w5 hb45).mono ?_);rintro e w6 ⟨mb,mn,mf,rfl,hmap,hb6⟩;have HMAP:=Lib.hid hmap;have q6:=hb6.size;have q6b:=hmap.base;clear hmap;have HX6:=Lib.hid (HX5.out.below hb6 (by omega));have HST6:=Lib.hid (HST5.out.mid (Mid.below hb6 (Nat.le_refl _):Mid w3.heap.size w5.heap.size w5 w6) (Nat.le_refl _) (Nat.le_refl _));have k3:=HX6.out.cell (j:=3) rfl)))
  obtain⟨g1,hg1,ha1,hm1,hd1⟩:=HST6.out.ten.mine HST6.out.is.ten.len (by omega)
  have hm1n:s.tens.length= m1:=HST6.out.is.ten.len
  subst hm1n
  have HA1:=Lib.hid ha1
  have HM1:=Lib.hid hm1
  have HD1:=Lib.hid hd1
  clear ha1 hm1 hd1 k3
  go_loopw [20] (fun i wr=>∃k: Nat,k≤s.tens.length∧ i= .int .i64 k∧Hid (s.tens≠[]→Mine layTen wr w3.heap.size g1 0 ((s.tens.take k).map (credT s.leas ticks)++s.tens.drop k))∧Only g1 w6 wr) (fun i _=>s.tens.length- (intOf i).toNat)
  case atStart=>exact ⟨0,by omega,rfl,fun h=>by simpa using HM1.out h,Only.refl _ _⟩
  case round=>
   obtain⟨k,hk,rfl,hmr,hor⟩:=hrel
   by_cases hlt:k< s.tens.length
   ·obtain⟨hlen,hat,hset⟩:=credT_at (ls:=s.leas) (ticks:=ticks) hlt
    have hne:s.tens≠ []:=by intro h;rw[h]at hlt;simp at hlt
    obtain⟨hx1,hg1s⟩:=HA1.out hne
    subst hx1
    have hmine:=hmr.out hne
    have hmg:=HMAP.out.ne (HM1.out hne) hne
    have HMR:=Lib.hid (HMAP.out.only hor hmg)
    have HXR:=Lib.hid (HX6.out.block (hor.block (w.heap.size+1) (by omega) (by omega)))
    have qr:=hor.size
    generalize hus:(s.tens.take k).map (credT s.leas ticks)++s.tens.drop k=us at hlen hat hset hmine
    have hku:k< us.length:=by omega
    have hxk:us[k]=s.tens[k]:=by rw[List.getElem?_eq_getElem hku]at hat;simpa using hat
    have hrg:=hmine.range hku
    rw[hxk,Nat.zero_add]at hrg
    have HRG:=Lib.hid hrg
    have HMN:=Lib.hid hmine
    have HT:=Lib.hid (HTEN.out s.tens[k] (List.getElem_mem hlt))
    have HXK:=Lib.hid hxk
    have HSET:=Lib.hid hset
    clear hmine hrg hxk hset hus hat hmr hmg
    generalize s.tens[k]=x at HRG HT HXK HSET
    obtain⟨id,rate,burst,bucket,gone⟩:=x
    have hgr:g1< wr.heap.size:=by omega
    have hl9:=HL.out.1
    cases gone with
    |true=>
     go_wp2_with(first|(refine wpList_load_lay layTen rfl (.tmp 23) rfl g1 (k*5) rfl ⟨id,rate,burst,bucket,true⟩ HRG.out ?_)|(refine wpList_store_box layTen rfl (.tmp 7) (.tmp 24) rfl ⟨id,rate,burst,bucket,true⟩ rfl rfl rfl ?_;intro w7 hw7 _ hb7 hs7;obtain⟨p0,p1,p2,p3,p4⟩:=cellsTen0 hw7;clear hw7))
     go_roundw
     case rel=>
      refine⟨k+1,by omega,by go_num,fun _=> ?_,hor.next hb7⟩
      rw[←HSET.out,show credT s.leas ticks ⟨id,rate,burst,bucket,true⟩=us[k]from by rw[HXK.out];rfl,List.set_getElem_self]
      exact HMN.out.block (hb7.block g1 hgr)
     case measure=>simp [intOf];omega
    |false=>
     have HZC:Hid (layTen.cells ⟨id,rate,burst,creditI bucket rate burst (outL s.leas id) ticks,false⟩=(layTen.cells us[k]).set 3 (.int .i64 (creditI bucket rate burst (outL s.leas id) ticks))):=by show _=_;rw[HXK.out];rfl
     have HNE:=Lib.hid (HMAP.out.ne (HM1.out hne) hne)
     have HWF:=Lib.hid (show(Lit.int .i64 id).wf=true from wf_sm (by have:=HT.out;simp only at this;omega) (by have:=HT.out;simp only at this;omega))
     have hcl:k* 5+3< (us.flatMap layTen.cells).length:=by rw[layTen.length];show _<us.length* 5;omega
     have HCL:=Lib.hid hcl
     have HCE:Hid ((us.flatMap layTen.cells)[k*5+ 3]? =some (us.flatMap layTen.cells)[k*5+ 3]):=List.getElem?_eq_getElem hcl
     clear hcl
     have HLK:=Lib.hid (fun w' (hb:Below wr.heap.size wr w')=>(HMR.out.below hb).run (id:=id) (wf_sm (by have:=HT.out;simp only at this;omega) (by have:=HT.out;simp only at this;omega)))
     go_wp2_with(first|(refine wpList_load_lay layTen rfl (.tmp 23) rfl g1 (k*5) rfl ⟨id,rate,burst,bucket,false⟩ HRG.out ?_)|(refine wpList_store_box layTen rfl (.tmp 7) (.tmp 24) rfl ⟨id,rate,burst,bucket,false⟩ rfl rfl rfl ?_;intro w7 hw7 _ hb7 hs7;obtain⟨p0,p1,p2,p3,p4⟩:=cellsTen0 hw7;have HB7:=Lib.hid hb7;have hlk:True:= trivial;have HX7:=Lib.hid (HXR.out.below hb7 (by omega));have k3:=HX7.out.cell (j:=3) rfl;clear hw7))
     have HKP:Hid (∀w',Only g1 w7 w'→(w'.cell? ⟨w.heap.size+1,3,none⟩=some (.slice (some ⟨g1,0,none⟩) s.tens.length y1)∧(w'.cell? ⟨wr.heap.size,0,none⟩=some (.int .i64 id)∧w'.cell? ⟨wr.heap.size,1,none⟩=some (.int .i64 rate)∧w'.cell? ⟨wr.heap.size,2,none⟩=some (.int .i64 burst)∧w'.cell? ⟨wr.heap.size,3,none⟩=some (.int .i64 bucket))∧(Instr.lookup 100 (.map (some mb)) (.int .i64 id) false).run Tryz.prog w'= .ok (.int .i64 (outL s.leas id)) w')):=fun w' ho=>⟨(HX7.out.block (ho.block _ (by omega) (by omega))).cell (j:=3) rfl,⟨(ho.cellOf (by show wr.heap.size<_;omega) (by show wr.heap.size≠_;omega)).trans p0,(ho.cellOf (by show wr.heap.size<_;omega) (by show wr.heap.size≠_;omega)).trans p1,(ho.cellOf (by show wr.heap.size<_;omega) (by show wr.heap.size≠_;omega)).trans p2,(ho.cellOf (by show wr.heap.size<_;omega) (by show wr.heap.size≠_;omega)).trans p3⟩,(((HMR.out.below HB7.out).only ho HNE.out).run (id:=id) HWF.out)⟩
     clear p0 p1 p2 p3 p4 k3 hlk
     go_region_held3 (fun w'=>(w'.cell? ⟨w.heap.size+1,3,none⟩=some (.slice (some ⟨g1,0,none⟩) s.tens.length y1)∧(w'.cell? ⟨wr.heap.size,0,none⟩=some (.int .i64 id)∧w'.cell? ⟨wr.heap.size,1,none⟩=some (.int .i64 rate)∧w'.cell? ⟨wr.heap.size,2,none⟩=some (.int .i64 burst)∧w'.cell? ⟨wr.heap.size,3,none⟩=some (.int .i64 bucket))∧(Instr.lookup 100 (.map (some mb)) (.int .i64 id) false).run Tryz.prog w'= .ok (.int .i64 (outL s.leas id)) w')) ((refine HKP.out _ ?_;first|exact (Only.refl g1 w7).next ((Below.refl _ _).drew)|exact HO78.out|exact HO79.out)) (first|(go_at_call 59;((with_reducible refine(credit_any _ _ _ _ _ _).mono ?_);rintro e w8 ⟨rfl,hb8⟩;have hb78:Below w7.heap.size w7 w8:=⟨hb8.os,hb8.tape,hb8.output,hb8.size,hb8.block⟩;have HM8:=Lib.hid ((HMN.out.block (hb7.block g1 hgr)).block (hb78.block g1 (by omega)));have HO78:=Lib.hid ((Only.refl g1 w7).next hb78);have q8:=hb78.size;have HW8:=Lib.hid (wrote_setCell w8 g1 (k*5+ 3) (.int .i64 (creditI bucket rate burst (outL s.leas id) ticks)));have HO79:=Lib.hid (HO78.out.wrote HW8.out);have hcc:=HM8.out.box.cell (j:=k* 5+3) (HCE.out);have hzz:=HM8.out.box.froz (j:=k* 5+3) HCL.out)))
     obtain⟨w9,hw9⟩:∃x,x=w8.setCell ⟨g1,k*5+ 3,none⟩ (.int .i64 (creditI bucket rate burst (outL s.leas id) ticks)):=⟨_,rfl⟩
     rw[←hw9]
     have HM9:=Lib.hid (show Mine layTen w9 w3.heap.size g1 0 (us.set k ⟨id,rate,burst,creditI bucket rate burst (outL s.leas id) ticks,false⟩) by rw[hw9];exact HM8.out.setOne hku (r:=3) (show 3<5 by decide) HZC.out)
     have HO9:=Lib.hid (show Only g1 w6 w9 by rw[hw9];exact((hor.next hb7).trans HO79.out))
     clear hw9 hcc hzz
     go_wp2
     refine⟨⟨k+1,by omega,by go_num,fun _=> ?_,HO9.out⟩,by simp[intOf];omega⟩
     rw[←HSET.out]
     exact HM9.out
   ·obtain rfl:k= s.tens.length:=by omega
    have hfin:s.tens≠ []→Mine layTen wr w3.heap.size g1 0 (s.tens.map (credT s.leas ticks)):=fun h=>by have:=hmr.out h;rw[List.take_length,List.drop_length,List.append_nil]at this;exact this
    have HFIN:=Lib.hid hfin
    have HXR:=Lib.hid (HX6.out.block (hor.block (w.heap.size+1) (by omega) (by omega)))
    have qr:=hor.size
    have HOR:=Lib.hid hor
    clear hfin hor hmr
    go_wp2_with(first|(refine wpList_load_as laySt rfl (.tmp 4) rfl (w.heap.size+1) 0 rfl ⟨t4,s4,n4',⟨x1,s.tens.length,y1⟩,⟨x2,m2,y2⟩,⟨x3,m3,y3⟩,⟨x4,m4,y4⟩⟩ (.agg #[.int .i64 t4,.int .i64 s4,.int .i64 n4',.slice x1 s.tens.length y1,.slice x2 m2 y2,.slice x3 m3 y3,.slice x4 m4 y4]) rfl HXR.out.range ?_)|(refine wpList_store_whole laySt rfl (.tmp 4) (.tmp 46) rfl (w.heap.size+1) ⟨t4,s4,n4',⟨x1,s.tens.length,y1⟩,⟨x2,m2,y2⟩,⟨x3,m3,y3⟩,⟨x4,m4,y4⟩⟩ _ rfl rfl HXR.out rfl ?_;intro w8 hbx8 hw8;have HX8:=Lib.hid hbx8;have HW8:=Lib.hid hw8;have q8:=hw8.size;clear hbx8 hw8))
    have m58:Mid w3.heap.size wr.heap.size wr w8:=(Mid.refl w3.heap.size wr.heap.size wr).wrote HW8.out (.inl (by omega))
    have S8:StAt w8 w3.heap.size ⟨t4,s4,n4',⟨x1,s.tens.length,y1⟩,⟨x2,m2,y2⟩,⟨x3,m3,y3⟩,⟨x4,m4,y4⟩⟩ {s with tens:=s.tens.map (credT s.leas ticks)}:=by
     have i5:=HST6.out
     have l6:SliAt layTen wr w3.heap.size ⟨x1,s.tens.length,y1⟩ (s.tens.map (credT s.leas ticks)):=by
      refine⟨by simp,i5.is.ten.le,i5.is.ten.nil,i5.is.ten.near,?_⟩
      by_cases h0:s.tens= []
      ·rw[h0];exact .inl rfl
      ·have h1:=(HA1.out h0).1
       have h2:=(HFIN.out h0).row
       rw[←h1]at h2;exact h2
     exact⟨i5.is.term,i5.is.stamp,i5.is.next,l6.mid m58 (Nat.le_refl _) (Nat.le_refl _),(i5.is.lea.apart HOR.out i5.tl HD1.out).mid m58 (Nat.le_refl _) (Nat.le_refl _),(i5.is.ses.apart HOR.out i5.ts HD1.out).mid m58 (Nat.le_refl _) (Nat.le_refl _),(i5.is.dsk.apart HOR.out i5.td HD1.out).mid m58 (Nat.le_refl _) (Nat.le_refl _)⟩
    have b8:Below w.heap.size w w8:=((hb45.trans (hb6.mono (by omega))).trans (HOR.out.below (by omega) (by omega))).trans (HW8.out.below _ (by omega))
    refine door_st (credit1_d w3.heap.size (w.heap.size+1) {s with tens:=s.tens.map (credT s.leas ticks)} .returning w8 (sweep_st {s with tens:=s.tens.map (credT s.leas ticks)} _ w3.heap.size (w.heap.size+1) w8 HX8.out S8 (by omega) (by omega) HFIT.out (by simp;exact HL.out.1) HL.out.2.1)) (by simp[go_sem]) ?_
    intro w9 r9 hbx9 hst9 hb9
    obtain⟨k0,k1,k2,k3,k4,k5,k6⟩:=cellsSt0 hbx9.range
    refine⟨r9.agg,by simp[results,Tryz.results28,go_sem,k0,k1,k2,k3,k4,k5,k6],r9,rfl,?_,b8.trans (hb9.mono (by omega))⟩
    rw[HO.out]
    exact hst9.mono (by
     rcases HBB.out with h|⟨_,h⟩
     ·omega
     ·omega)
theorem credit_new (s:St) (r:Raw) (B:Nat) (ticks:Int) (w:World) (h:StAt w B r s) (hl1:s.tens.length≤ 900) (hl2:s.leas.length≤ 900) (hl3:s.sess.length≤ 900) (hl4:s.dsks.length≤ 900) (hok:stOk s=true):
 Calls Tryz.prog 28 #[r.agg,.int .i64 ticks] w (RetSt w w.heap.size (creditS s ticks)):=
 credit_st_gen s r B ticks w h hl1 hl2 hl3 hl4 w.heap.size (.inr ⟨hok,Nat.le_refl _⟩)
end Go.Proofs.YtfdmhpohfjbpfaaGreat
