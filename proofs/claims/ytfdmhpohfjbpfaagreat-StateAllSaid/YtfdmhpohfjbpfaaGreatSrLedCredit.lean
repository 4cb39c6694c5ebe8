import Derived.Test.YtfdmhpohfjbpfaaGreatSr10
set_option linter.unusedVariables false
set_option linter.unusedSimpArgs false
namespace Go.Proofs.YtfdmhpohfjbpfaaGreat
open Go.ChangeShapes Go.WideShapes Go.ChangeAt Go.RowKit
set_option maxRecDepth 100000
set_option maxHeartbeats 16000000
theorem jz.run{w:World}{B b n:Nat}{f:Int→ Option Int}{ls:List aV}(h:jz w B b n f ls){id:Int}(hid:(Lit.int .i64 id).wf=true):(Instr.lookup 100 (.map (some b)) (.int .i64 id) false).run Tryz.prog w= .ok (.int .i64 (bV ls id)) w:=by
 obtain⟨D,hD,hf⟩:=h.map;obtain⟨h1,_⟩:=hf id hid;obtain⟨c,hrun,hat,_⟩:=hD.lookup_int BU.keyed Tryz.underlying100 Tryz.underlying3 (Bg w) (BU.key id hid);rw[h1,h.out]at hat;simp only[DataW.lit.injEq,Lit.int.injEq,true_and]at hat;rw[hat];exact hrun
theorem jz.only{w w':World}{B b n g:Nat}{f:Int→ Option Int}{ls:List aV}(h:jz w B b n f ls)(hk:dF g w w')(hne:b≠ g):jz w' B b n f ls:=by
 have hlt:=h.map.lt;obtain⟨D,⟨es,clock,h1,h2⟩,hf⟩:=h.map;exact⟨⟨D,⟨es,clock,by rw[hk.block b hlt hne];exact h1,h2⟩,hf⟩,h.out,h.base,h.small⟩
theorem jz.ne{P:Program}{e:TypeId}{α:Type}{L:iW P e α}{w:World}{B b n g B':Nat}{f:Int→ Option Int}{ls:List aV}{xs:List α}(h:jz w B b n f ls)(hm:dM L w B' g 0 xs)(h0:xs≠ []):b≠ g:=by
 rintro rfl;obtain⟨D,⟨es,clock,h1,_⟩,_⟩:=h.map;have hpos:0< (xs.flatMap L.cells).length:=by rw[L.length];exact Nat.mul_pos (List.length_pos_iff.2 h0) L.pos
 have:=hm.box.cell (j:=0) (List.getElem?_eq_getElem hpos);simp[World.cell?,h1]at this
theorem fJ{w:World}{b:Nat}{t:aj}(h:w.rangeAt b 0 t.cells):w.cell? ⟨b,0,none⟩=some (.int .i64 t.id)∧w.cell? ⟨b,1,none⟩=some (.int .i64 t.aK)∧w.cell? ⟨b,2,none⟩=some (.int .i64 t.aq)∧w.cell? ⟨b,3,none⟩=some (.int .i64 t.bucket)∧w.cell? ⟨b,4,none⟩=some (.bool t.gone):=by
 have h0:=h 0 _ rfl;have h1:=h 1 _ rfl;have h2:=h 2 _ rfl;have h3:=h 3 _ rfl;have h4:=h 4 _ rfl;simp only[Nat.zero_add]at h0 h1 h2 h3 h4;exact⟨h0,h1,h2,h3,h4⟩
theorem fQ.Vi{P:Program}{e:TypeId}{α:Type}{L:iW P e α}{w:World}{B:Nat}{a:Option Addr}{n c:Nat}{xs:List α}(ho:fQ L w B ⟨a,n,c⟩ xs)(hn:xs.length= n)(hB:B≤ w.heap.size):
 ∃g,B≤g∧ (xs≠[]→a= some ⟨g,0,none⟩∧g< w.heap.size)∧(xs≠[]→dM L w B g 0 xs)∧((∃o q,a=some ⟨g,o,q⟩)∨g= w.heap.size):=by
 subst hn;by_cases h0:xs= []
 ·exact⟨w.heap.size,hB,fun h=>absurd h0 h,fun h=>absurd h0 h,.inr rfl⟩
 ·have hown:=ho.own (List.length_pos_iff.2 h0);obtain⟨g,rfl,hg,_⟩:=iM hown (by intro h1;have:=congrArg List.length h1;rw[L.length,List.length_nil,Nat.mul_eq_zero]at this;have hp:=L.pos;rcases this with h|h;exact h0 (List.eq_nil_of_length_eq_zero h);omega);have hm:=dM.pV (L:=L) hown;exact⟨g,hg,fun _=>⟨rfl,hm.lt h0⟩,fun _=>hm,.inl ⟨0,none,rfl⟩⟩
theorem Fh{ts:List aj}{ls:List aV}{ticks:Int}{k:Nat}(hk:k< ts.length):((ts.take k).map (eB ls ticks)++ts.drop k).length=ts.length∧ ((ts.take k).map (eB ls ticks)++ts.drop k)[k]? =some ts[k]∧
 ((ts.take k).map (eB ls ticks)++ts.drop k).set k (eB ls ticks ts[k])=(ts.take (k+1)).map (eB ls ticks)++ts.drop (k+1):=by
 have hlen:((ts.take k).map (eB ls ticks)).length=k:= by simp;omega
 refine⟨by simp;omega,?_,?_⟩
 ·rw[List.getElem?_append_right o_,hlen];simp[hk]
 ·rw[List.set_append_right _ _ o_,hlen,Nat.sub_self,List.take_succ_eq_append_getElem hk,List.map_append,List.drop_eq_getElem_cons hk];simp only[List.map_cons,List.map_nil,List.append_assoc,List.set_cons_zero,List.cons_append,List.nil_append]
theorem fP{s:St}(h:cp s=true):aZ 0 s.ax=true∧ Fits s.ai:=by
 unfold cp at h;simp only[Bool.and_eq_true]at h;exact⟨h.1.1,bU h.1.1 h.1.2.1⟩
theorem dM.Pk{P:Program}{e:TypeId}{α:Type}{L:iW P e α}{w:World}{B g k r:Nat}{xs:List α}{v:Value}{z:α}(h:dM L w B g 0 xs)(hk:k< xs.length)(hr:r< L.size)(hz:L.cells z=(L.cells xs[k]).set r v):dM L (w.setCell ⟨g,k*L.size+ r,none⟩ v) B g 0 (xs.set k z):=by
 refine .Ji h.1 ?_;rw[rA hk hr hz];refine h.box.set ?_ v;rw[L.length];have:=Nat.mul_le_mul_right L.size (Nat.succ_le_of_lt hk);rw[Nat.succ_mul]at this;omega
theorem dF.cellOf{g:Nat}{w w':World}(h:dF g w w'){p:Addr}(h1:p.block< w.heap.size)(h2:p.block≠ g):w'.cell? p=w.cell? p:=World.cell?_of_block (h.block _ h1 h2)
theorem dX(w:World)(g i:Nat)(v:Value):dt g w (w.setCell ⟨g,i,none⟩ v):=⟨fun B hB=>(Below.refl B w).setCell (p:=⟨g,i,none⟩) hB v,by simp,fun k hk=>Below.heap_setCell _ _ _ _ (fun e=>hk e)⟩
theorem BG(s:St)(r:Raw)(B:Nat)(ticks:Int)(w:World)(h:aX w B r s)(cC:s.ax.length≤ 900)(hl2:s.ai.length≤ 900)(cS:s.cd.length≤ 900)(hl4:s.aP.length≤ 900)(BB:Nat)(FB:BB= 0∨(cp s=true∧ BB≤w.heap.size)):
 Calls Tryz.prog 28 #[r.agg,.int .i64 ticks] w (mi w BB (dA s ticks)):=by
 have Bh:=h_ FB;clear FB;have D3:∀(fn:Fn) (first cap:Array Value) (w:World),(Instr.makeFunc fn first cap).run Tryz.prog w= .ok (.func fn first cap) w:=fun _ _ _ _=>rfl
 have HS:=h_ h;have HL:=h_ (And.intro cC (And.intro hl2 (And.intro cS hl4)));have fZ:=h_ (fun w' (hb:Below w.heap.size w w')=>gY s r B w' (h.below hb) cC hl2);have mq:=h_ (fun w' (hb:Below w.heap.size w w')=>jq s r B w' (h.below hb) cC hl2 cS hl4);have Hp:=h_ (fun(hf:Fits s.ai) w' (hb:Below w.heap.size w w')=>uY s.ai r w' h.cG.len o_ hf (h.cG.row.below hb));have HE:Hid (dA s ticks=if cp s=true then bG {s with ax:=s.ax.map (eB s.ai ticks)}else s):=rfl;generalize dA s ticks=res at HE ⊢;obtain⟨term,ag,next,⟨a1,n1,c1⟩,⟨a2,n2,c2⟩,⟨a3,n3,c3⟩,⟨a4,n4,c4⟩⟩:=r
 have cT:Hid (∀w',Below ((w.alloc (.cells (aw term ag next a1 n1 c1 a2 n2 c2 a3 n3 c3 a4 n4 c4) 27)).alloc (.cells aS 27)).heap.size ((w.alloc (.cells (aw term ag next a1 n1 c1 a2 n2 c2 a3 n3 c3 a4 n4 c4) 27)).alloc (.cells aS 27)) w'→
  aU w' w.heap.size (Raw.cells ⟨term,ag,next,⟨a1,n1,c1⟩,⟨a2,n2,c2⟩,⟨a3,n3,c3⟩,⟨a4,n4,c4⟩⟩)∧aU w' (w.heap.size+1) (Raw.cells ⟨0,0,0,⟨none,0,0⟩,⟨none,0,0⟩,⟨none,0,0⟩,⟨none,0,0⟩⟩)∧w.heap.size+ 2≤w'.heap.size):=
  fun w' hb=>⟨aU.aR (ah hb),aU.cn hb,by have:=hb.size;simp at this;omega⟩
 clear h cC hl2 cS hl4;cases hok:cp s with
 |false=>
  have lH:Hid (BB=0):=h_ (by
   rcases Bh.out with h|⟨h,_⟩
   ·exact h
   ·rw[hok]at h;cases h)
  have fT:=h_ hok;have HO:Hid (res=s):=by show _=_;rw[HE.out,if_neg (by rw[hok];simp)]
  clear hok HE mq Hp;go_enter_defers Tryz.func28,Tryz.ntmps28;go_wp2_with(first|(refine aa aG rfl (.tmp 2) rfl w.heap.size 0 rfl ⟨term,ag,next,⟨a1,n1,c1⟩,⟨a2,n2,c2⟩,⟨a3,n3,c3⟩,⟨a4,n4,c4⟩⟩ (.agg (aw term ag next a1 n1 c1 a2 n2 c2 a3 n3 c3 a4 n4 c4)) rfl (cT _ aH).1.range ?_)|(go_at_call 43;((with_reducible refine(fZ.out _ aH).mono ?_);rw[fT.out];rintro e w3 ⟨rfl,hb3⟩;have jx:=h_ (cT w3 aH)))|(refine av aG rfl (.tmp 4) (.tmp 11) rfl (w.heap.size+1) ⟨term,ag,next,⟨a1,n1,c1⟩,⟨a2,n2,c2⟩,⟨a3,n3,c3⟩,⟨a4,n4,c4⟩⟩ _ rfl rfl jx.2.1 rfl ?_;intro w4 hb4 hw4;have gm:=h_ hb4;have Hy:=h_ hw4;clear hb4 hw4));have b3:Below w.heap.size w w3:=aH;have b4:Below w.heap.size w w4:=b3.trans (Hy.below _ o_);obtain⟨k0,k1,k2,k3,k4,k5,k6⟩:=bP gm.range;refine⟨.agg (aw term ag next a1 n1 c1 a2 n2 c2 a3 n3 c3 a4 n4 c4),by simp[results,Tryz.results28,go_sem,k0,k1,k2,k3,k4,k5,k6],⟨term,ag,next,⟨a1,n1,c1⟩,⟨a2,n2,c2⟩,⟨a3,n3,c3⟩,⟨a4,n4,c4⟩⟩,rfl,?_,b4⟩;rw[HO.out];exact(HS.below b4).mono (Nat.le_trans (Nat.le_of_eq lH.out) (Nat.zero_le _))
 |true=>
  have fT:=h_ hok;have HO:Hid (res=bG {s with ax:=s.ax.map (eB s.ai ticks)}):=by show _=_;rw[HE.out,if_pos hok]
  have fh:=h_ (fP hok).2;have nP:=h_ (fun x hx=>pd (x:=x) (fP hok).1 hx);clear hok HE;go_enter_defers Tryz.func28,Tryz.ntmps28;go_wp2_with(first|(refine aa aG rfl (.tmp 2) rfl w.heap.size 0 rfl ⟨term,ag,next,⟨a1,n1,c1⟩,⟨a2,n2,c2⟩,⟨a3,n3,c3⟩,⟨a4,n4,c4⟩⟩ (.agg (aw term ag next a1 n1 c1 a2 n2 c2 a3 n3 c3 a4 n4 c4)) rfl (by first|exact xZ.range|exact (cT _ aH).1.range) ?_)|(go_at_call 43;((with_reducible refine(fZ.out _ aH).mono ?_);rw[fT.out];rintro e w3 ⟨rfl,hb3⟩;have jx:=h_ (cT w3 aH)))|(go_at_call 57;((with_reducible refine(mq.out _ aH).mono ?_);rintro e w4 ⟨⟨t4,s4,mj,⟨x1,m1,y1⟩,⟨x2,m2,y2⟩,⟨x3,m3,y3⟩,⟨x4,m4,y4⟩⟩,rfl,fA,hb4⟩;have iB:=h_ fA;have gm:=h_ (cT w4 aH);clear fA))|(refine av aG rfl (.tmp 4) (.tmp 14) rfl (w.heap.size+1) ⟨t4,s4,mj,⟨x1,m1,y1⟩,⟨x2,m2,y2⟩,⟨x3,m3,y3⟩,⟨x4,m4,y4⟩⟩ _ rfl rfl gm.2.1 rfl ?_;intro w5 jr dC;have pC:=h_ jr;have nt:=h_ dC;have q3:=jx.2.2;have jD:=h_ (iB.eH (cx.wrote (cx.refl w3.heap.size w4.heap.size w4) dC (.inl o_)) n_ n_);have xZ:=h_ (gm.1.wrote dC o_);have cv:Below (w.heap.size+1) w4 w5:=dC.below _ n_;have qH:Below w.heap.size w w5:=Below.trans (show Below w.heap.size w w4 from aH) (cv.mono o_);have q5:w5.heap.size= w4.heap.size:=dC.size;have Qp:=hb4.size;clear jr dC)|(go_at_call 58;((with_reducible refine(Hp.out fh.out w5 qH).mono ?_);rintro e w6 ⟨mb,mn,mf,rfl,hmap,df⟩;have Ho:=h_ hmap;have q6:=df.size;have q6b:=hmap.base;clear hmap;have nQ:=h_ (pC.below df o_);have fU:=h_ (jD.eH (cx.below df n_:cx w3.heap.size w5.heap.size w5 w6) n_ n_);have k3:=nQ.cell (j:=3) rfl)));obtain⟨g1,hg1,ha1,IW,hd1⟩:=fU.cD.Vi fU.is.cD.len o_;have U1:s.ax.length= m1:=fU.is.cD.len;subst U1;have yD:=h_ ha1;have Qc:=h_ IW;have TK:=h_ hd1;clear ha1 IW hd1 k3;go_loopw [20] (fun i wr=>∃k: Nat,k≤s.ax.length∧ i= .int .i64 k∧Hid (s.ax≠[]→dM aT wr w3.heap.size g1 0 ((s.ax.take k).map (eB s.ai ticks)++s.ax.drop k))∧dF g1 w6 wr) (fun i _=>s.ax.length- (intOf i).toNat)
  case atStart=>exact ⟨0,by omega,rfl,fun h=>by simpa using Qc.out h,dF.refl _ _⟩
  case round=>
   obtain⟨k,hk,rfl,hmr,kH⟩:=hrel;by_cases hlt:k< s.ax.length
   ·obtain⟨hlen,hat,sM⟩:=Fh (ls:=s.ai) (ticks:=ticks) hlt;have hne:s.ax≠ []:=by intro h;rw[h]at hlt;simp at hlt
    obtain⟨hx1,ab5⟩:=yD.out hne;subst hx1;have qu:=hmr.out hne;have hmg:=Ho.ne (Qc hne) hne;have EI:=h_ (Ho.only kH hmg);have nR:=h_ (nQ.block (kH.block (w.heap.size+1) o_ o_));have qr:=kH.size;generalize hus:(s.ax.take k).map (eB s.ai ticks)++s.ax.drop k=us at hlen hat sM qu;have UZ:k< us.length:=o_;have hxk:us[k]=s.ax[k]:=by rw[List.getElem?_eq_getElem UZ]at hat;simpa using hat
    have hrg:=qu.range UZ;rw[hxk,Nat.zero_add]at hrg;have gB:=h_ hrg;have Xi:=h_ qu;have HT:=h_ (nP s.ax[k] (List.getElem_mem hlt));have Ha:=h_ hxk;have Ht:=h_ sM;clear qu hrg hxk sM hus hat hmr hmg;generalize s.ax[k]=x at gB HT Ha Ht;obtain⟨id,aK,aq,bucket,gone⟩:=x;have hgr:g1< wr.heap.size:=o_;have Z0:=HL.1;cases gone with
    |true=>
     go_wp2_with(first|(refine bQ aT rfl (.tmp 23) rfl g1 (k*5) rfl ⟨id,aK,aq,bucket,true⟩ gB.out ?_)|(refine aI aT rfl (.tmp 7) (.tmp 24) rfl ⟨id,aK,aq,bucket,true⟩ rfl rfl rfl ?_;intro w7 eO _ cL kP;obtain⟨p0,p1,p2,p3,p4⟩:=fJ eO;clear eO));go_roundw
     case rel=>
      refine⟨k+1,by omega,by go_num,fun _=> ?_,kH.next cL⟩;rw[←Ht.out,show eB s.ai ticks ⟨id,aK,aq,bucket,true⟩=us[k]from by rw[Ha.out];rfl,List.set_getElem_self];exact Xi.block (cL.block g1 hgr)
     case measure=>simp [intOf];omega
    |false=>
     have Ul:Hid (aT.cells ⟨id,aK,aq,dH bucket aK aq (bV s.ai id) ticks,false⟩=(aT.cells us[k]).set 3 (.int .i64 (dH bucket aK aq (bV s.ai id) ticks))):=by show _=_;rw[Ha.out];rfl
     have Mx:=h_ (Ho.ne (Qc hne) hne);have xY:=h_ (show(Lit.int .i64 id).wf=true from Bd (by have:=HT.out;simp only at this;omega) (by have:=HT.out;simp only at this;omega));have hcl:k* 5+3< (us.flatMap aT.cells).length:=by rw[aT.length];show _<us.length* 5;omega
     have TJ:=h_ hcl;have HCE:Hid ((us.flatMap aT.cells)[k*5+ 3]? =some (us.flatMap aT.cells)[k*5+ 3]):=List.getElem?_eq_getElem hcl;clear hcl;have Mw:=h_ (fun w' (hb:Below wr.heap.size wr w')=>(EI.below hb).run (id:=id) (Bd (by have:=HT.out;simp only at this;omega) (by have:=HT.out;simp only at this;omega)));go_wp2_with(first|(refine bQ aT rfl (.tmp 23) rfl g1 (k*5) rfl ⟨id,aK,aq,bucket,false⟩ gB.out ?_)|(refine aI aT rfl (.tmp 7) (.tmp 24) rfl ⟨id,aK,aq,bucket,false⟩ rfl rfl rfl ?_;intro w7 eO _ cL kP;obtain⟨p0,p1,p2,p3,p4⟩:=fJ eO;have iZ:=h_ cL;have hlk:True:= trivial;have gX:=h_ (nR.below cL o_);have k3:=gX.cell (j:=3) rfl;clear eO));have pk:Hid (∀w',dF g1 w7 w'→(w'.cell? ⟨w.heap.size+1,3,none⟩=some (.slice (some ⟨g1,0,none⟩) s.ax.length y1)∧(w'.cell? ⟨wr.heap.size,0,none⟩=some (.int .i64 id)∧w'.cell? ⟨wr.heap.size,1,none⟩=some (.int .i64 aK)∧w'.cell? ⟨wr.heap.size,2,none⟩=some (.int .i64 aq)∧w'.cell? ⟨wr.heap.size,3,none⟩=some (.int .i64 bucket))∧(Instr.lookup 100 (.map (some mb)) (.int .i64 id) false).run Tryz.prog w'= .ok (.int .i64 (bV s.ai id)) w')):=fun w' ho=>⟨(gX.block (ho.block _ o_ o_)).cell (j:=3) rfl,⟨(ho.cellOf (by show wr.heap.size<_;omega) (by show wr.heap.size≠_;omega)).trans p0,(ho.cellOf (by show wr.heap.size<_;omega) (by show wr.heap.size≠_;omega)).trans p1,(ho.cellOf (by show wr.heap.size<_;omega) (by show wr.heap.size≠_;omega)).trans p2,(ho.cellOf (by show wr.heap.size<_;omega) (by show wr.heap.size≠_;omega)).trans p3⟩,(((EI.below iZ.out).only ho Mx.out).run (id:=id) xY.out)⟩
     clear p0 p1 p2 p3 p4 k3 hlk;go_region_held3 (fun w'=>(w'.cell? ⟨w.heap.size+1,3,none⟩=some (.slice (some ⟨g1,0,none⟩) s.ax.length y1)∧(w'.cell? ⟨wr.heap.size,0,none⟩=some (.int .i64 id)∧w'.cell? ⟨wr.heap.size,1,none⟩=some (.int .i64 aK)∧w'.cell? ⟨wr.heap.size,2,none⟩=some (.int .i64 aq)∧w'.cell? ⟨wr.heap.size,3,none⟩=some (.int .i64 bucket))∧(Instr.lookup 100 (.map (some mb)) (.int .i64 id) false).run Tryz.prog w'= .ok (.int .i64 (bV s.ai id)) w')) ((refine pk.out _ ?_;first|exact (dF.refl g1 w7).next (b_.drew)|exact M3.out|exact M5.out)) (first|(go_at_call 59;((with_reducible refine(Ii _ _ _ _ _ _).mono ?_);rintro e w8 ⟨rfl,jn⟩;have tT:Below w7.heap.size w7 w8:=⟨jn.os,jn.tape,jn.output,jn.size,jn.block⟩;have ET:=h_ ((Xi.block (cL.block g1 hgr)).block (tT.block g1 o_));have M3:=h_ ((dF.refl g1 w7).next tT);have q8:=tT.size;have iT:=h_ (dX w8 g1 (k*5+ 3) (.int .i64 (dH bucket aK aq (bV s.ai id) ticks)));have M5:=h_ (M3.wrote iT.out);have hcc:=ET.box.cell (j:=k* 5+3) (HCE.out);have hzz:=ET.box.cu (j:=k* 5+3) TJ.out)));obtain⟨w9,fo⟩:∃x,x=w8.setCell ⟨g1,k*5+ 3,none⟩ (.int .i64 (dH bucket aK aq (bV s.ai id) ticks)):=⟨_,rfl⟩;rw[←fo];have SI:=h_ (show dM aT w9 w3.heap.size g1 0 (us.set k ⟨id,aK,aq,dH bucket aK aq (bV s.ai id) ticks,false⟩) by rw[fo];exact ET.Pk UZ (r:=3) (show 3<5 by decide) Ul.out);have HO9:=h_ (show dF g1 w6 w9 by rw[fo];exact((kH.next cL).trans M5.out));clear fo hcc hzz;go_wp2;refine⟨⟨k+1,by omega,by go_num,fun _=> ?_,HO9.out⟩,by simp[intOf];omega⟩;rw[←Ht.out];exact SI.out
   ·obtain rfl:k= s.ax.length:=o_;have hfin:s.ax≠ []→dM aT wr w3.heap.size g1 0 (s.ax.map (eB s.ai ticks)):=fun h=>by have:=hmr.out h;rw[List.take_length,List.drop_length,List.append_nil]at this;exact this
    have vO:=h_ hfin;have nR:=h_ (nQ.block (kH.block (w.heap.size+1) o_ o_));have qr:=kH.size;have SJ:=h_ kH;clear hfin kH hmr;go_wp2_with(first|(refine aa aG rfl (.tmp 4) rfl (w.heap.size+1) 0 rfl ⟨t4,s4,mj,⟨x1,s.ax.length,y1⟩,⟨x2,m2,y2⟩,⟨x3,m3,y3⟩,⟨x4,m4,y4⟩⟩ (.agg (aw t4 s4 mj x1 s.ax.length y1 x2 m2 y2 x3 m3 y3 x4 m4 y4)) rfl nR.range ?_)|(refine av aG rfl (.tmp 4) (.tmp 46) rfl (w.heap.size+1) ⟨t4,s4,mj,⟨x1,s.ax.length,y1⟩,⟨x2,m2,y2⟩,⟨x3,m3,y3⟩,⟨x4,m4,y4⟩⟩ _ rfl rfl nR.out rfl ?_;intro w8 eD fH;have iY:=h_ eD;have iT:=h_ fH;have q8:=fH.size;clear eD fH));have Gk:cx w3.heap.size wr.heap.size wr w8:=(cx.refl w3.heap.size wr.heap.size wr).wrote iT.out (.inl o_);have S8:aX w8 w3.heap.size ⟨t4,s4,mj,⟨x1,s.ax.length,y1⟩,⟨x2,m2,y2⟩,⟨x3,m3,y3⟩,⟨x4,m4,y4⟩⟩ {s with ax:=s.ax.map (eB s.ai ticks)}:=by
     have i5:=fU.out;have l6:cK aT wr w3.heap.size ⟨x1,s.ax.length,y1⟩ (s.ax.map (eB s.ai ticks)):=by
      refine⟨by simp,i5.is.cD.le,i5.is.cD.nil,i5.is.cD.eZ,?_⟩;by_cases h0:s.ax= []
      ·rw[h0];exact .inl rfl
      ·have h1:=(yD h0).1;have h2:=(vO h0).row;rw[←h1]at h2;exact h2
     exact⟨i5.is.term,i5.is.ag,i5.is.next,l6.eH Gk n_ n_,(i5.is.cG.apart SJ.out i5.tl TK.out).eH Gk n_ n_,(i5.is.eY.apart SJ.out i5.ts TK.out).eH Gk n_ n_,(i5.is.ft.apart SJ.out i5.td TK.out).eH Gk n_ n_⟩
    have b8:Below w.heap.size w w8:=((qH.trans (df.mono o_)).trans (SJ.below o_ o_)).trans (iT.below _ o_);refine JV (KX w3.heap.size (w.heap.size+1) {s with ax:=s.ax.map (eB s.ai ticks)} .returning w8 (kN {s with ax:=s.ax.map (eB s.ai ticks)} _ w3.heap.size (w.heap.size+1) w8 iY.out S8 o_ o_ fh.out (by simp;exact HL.1) HL.2.1)) (by simp[go_sem]) ?_;intro w9 r9 eQ yi sK;obtain⟨k0,k1,k2,k3,k4,k5,k6⟩:=bP eQ.range;refine⟨r9.agg,by simp[results,Tryz.results28,go_sem,k0,k1,k2,k3,k4,k5,k6],r9,rfl,?_,b8.trans (sK.mono o_)⟩;rw[HO.out]
    exact yi.mono (by
     rcases Bh.out with h|⟨_,h⟩
     ·omega
     ·omega)
theorem Ij(s:St)(r:Raw)(B:Nat)(ticks:Int)(w:World)(h:aX w B r s)(cC:s.ax.length≤ 900)(hl2:s.ai.length≤ 900)(cS:s.cd.length≤ 900)(hl4:s.aP.length≤ 900)(hok:cp s=true):
 Calls Tryz.prog 28 #[r.agg,.int .i64 ticks] w (mi w w.heap.size (dA s ticks)):=
 BG s r B ticks w h cC hl2 cS hl4 w.heap.size (.inr ⟨hok,Nat.le_refl _⟩)
end Go.Proofs.YtfdmhpohfjbpfaaGreat
