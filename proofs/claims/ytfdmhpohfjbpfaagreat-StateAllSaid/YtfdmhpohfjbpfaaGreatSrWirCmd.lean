import Derived.Test.YtfdmhpohfjbpfaaGreatSr09
set_option linter.unusedVariables false
set_option linter.unusedSimpArgs false
namespace Go.Proofs.YtfdmhpohfjbpfaaGreat
open Go.ChangeShapes Go.WideShapes Go.ChangeAt Go.RowKit
set_option maxRecDepth 100000
set_option maxHeartbeats 16000000
theorem pP(xs:List Int):(xs.flatMap dV).length=xs.length* 8:=by
 induction xs with
 |nil=> simp
 |cons x xs ih=>rw [List.flatMap_cons,List.length_append,gP,ih,List.length_cons,Nat.succ_mul];omega
theorem GZ(l:List UInt8)(p:Nat):ni l p=cy (Gg l p) fun v0 p=>cy (ej fX 10 l p) fun xs p=>cy (jW l p) fun v11 p=>cy (rH 8 fX l p) fun v12 p=> .ok (⟨v0,xs.getD 0 0,xs.getD 1 0,xs.getD 2 0,xs.getD 3 0,xs.getD 4 0,xs.getD 5 0,xs.getD 6 0,xs.getD 7 0,xs.getD 8 0,xs.getD 9 0,v11,v12⟩,p):=by
 unfold ni;simp only[ej,Fe,Ff,List.getD_cons_zero,List.getD_cons_succ]
abbrev lI:=Option Addr×Nat
abbrev jG(v:cR)(p:lI):List Value:=(bO v.kind v.aA v.number v.aC v.aK v.aq v.ak v.aM v.bW v.size v.bN v.closed p.1 v.bp.length p.2)
def im(v:cR)(p:lI):Value:= .agg (bO v.kind v.aA v.number v.aC v.aK v.aq v.ak v.aM v.bW v.size v.bN v.closed p.1 v.bp.length p.2)
structure l8(W w:World)(v:cR)(p:lI):Prop where
 row:gz W w p.1 (v.bp.flatMap fD)
 le:v.bp.length≤ p.2
theorem l8.bY{S:Nat→ Prop}{W w w':World}{v:cR}{p:lI}(h:l8 W w v p)(hk:dv S w w')(hs:∀k,S k→k< W.heap.size):l8 W w' v p:=⟨h.row.bY hk hs,h.le⟩
theorem l8.mono{W W' w:World}{v:cR}{p:lI}(h:l8 W w v p)(hw:W'.heap.size≤ W.heap.size):l8 W' w v p:=⟨h.row.mono hw,h.le⟩
theorem l8.below{W w w':World}{v:cR}{p:lI}(h:l8 W w v p)(hb:Below w.heap.size w w'):l8 W w' v p:=⟨h.row.below hb,h.le⟩
def xk:cR:= ⟨0,0,0,0,0,0,0,0,0,0,0,false,[]⟩
def J8:lI:= (none,0)
theorem Ee(W w:World):l8 W w xk J8:=⟨gz.nil _ _ _,Nat.le_refl _⟩
def XG(w0:World)(gx:Nat)(v:cR)(w':World):Prop:= ∃p: lI,aU w' gx (jG v p)∧l8 w0 w' v p
structure vU(g:Nat)(w:World)(v:cR)(p:lI):Prop where
 row:ja g w p.1 (v.bp.flatMap fD)
theorem vU.up{g g':Nat}{w W:World}{v:cR}{p:lI}(h:vU g w v p)(hg:g≤ g')(hb:Below w.heap.size w W):vU g' W v p:=⟨h.row.up hg hb⟩
structure zw(v:cR):Prop where
 kind:H6 v.kind
 size:(gK v).length≤1000000
theorem Y0 {P:Prop}(h:P:=by
 rcases(show k=0∨ k=1∨ k=2∨ k=3∨ k=4∨ k=5∨ k=6∨ k=7∨ k=8∨ k=9 by omega)with rfl|rfl| rfl|rfl| rfl|rfl| rfl|rfl| rfl|rfl<;>kernel_rfl):P:=h
theorem KU(g c p gx:Nat)(a:Option Addr)(bs:List UInt8)(w:World)(h:Cr w g a c bs p)(hl:bs.length≤ 2000000)(hx:aU w gx fC)(hgx:Bl g (jU a bs) gx):
 Calls Tryz.prog 61 #[.pointer (some ⟨g,0,none⟩),.pointer (some ⟨gx,0,none⟩)] w (Nw w g gx 13 a c bs (ni bs p) (XG w gx)):=by
 have HP:=h_ (GZ bs p);have HT:=h_ (dO.refl g gx w);have HC:=h_ h;have HX:=h_ hx;have VV:=h_ (And.intro (h.box.lt (by simp)) (hx.lt (by simp)));clear h hx;go_enter Tryz.func61,Tryz.ntmps61;go_upto_region 1 with(go_at_call 108;((with_reducible refine(Ve g c _ gx _ a bs _ 0 _ HC.out hl HX.out hgx (by simp) (by simp)).mono ?_);rintro e w1 ⟨ht,⟨v,q,hr,rfl,hc,hb⟩|⟨f,hr,rfl,hb⟩⟩<;>replace HT:=h_ (dO.next HT.out ht)<;>first| (replace HP:=h_ (yY HP.out hr);replace HC:=h_ hc;replace HX:=h_ hb;clear ht hr hc hb)|(have HB:=h_ hb;have ZL:=h_ (vD HP.out hr);clear ht hr hb)))
 ·replace HX:Hid (aU w1 gx (bO v 0 0 0 0 0 0 0 0 0 0 false none 0 0)):=HX;go_quiet (fail);have EG:=h_ (HC.below (below_drewN (Below.refl w1.heap.size w1) nq));have jx:=h_ (HX.next (by simp) (below_drewN (Below.refl w1.heap.size w1) nq));have Wc:=h_ (dO.next HT.out (dO.below (below_drewN (Below.refl w1.heap.size w1) nq)));clear HC HX HT;have HC:=EG;have HX:=jx;have HT:=Wc;clear EG jx Wc;generalize w1.drewN nq=w2 at HC HX HT ⊢;go_wp2;go_loopw [5,42] (fun _ i wr=>∃(xs:List Int) (q1:Nat),xs.length≤10∧ i= .int .i64 xs.length∧Hid (Cr wr g a c bs q1)∧Hid (dO g gx w wr)∧Hid (aU wr gx (Ej (bO v 0 0 0 0 0 0 0 0 0 0 false none 0 0) 1 xs))∧Hid (ej fX xs.length bs q= .ok (xs,q1))) (fun _ i _=>10- (intOf i).toNat)
  case atStart=>exact ⟨[],q,by simp,rfl,HC.out,HT.out,by show aU _ _ _;rw[Gx];exact HX.out,rfl⟩
  case round=>
   obtain⟨xs,q1,hk,rfl,hcr,htr,fI,Yy⟩:=hrel;by_cases hlt:xs.length< 10
   ·have hnw:=Aw g c q1 gx (1+xs.length) a bs _ wr hcr.out hl fI.out hgx (by rw[kr (by simp;omega)];simp;omega);have Qd:=h_ hnw;clear hnw;have Rg:∀w,(Instr.index 148 (.agg #[.pointer (some ⟨gx,1,none⟩),.pointer (some ⟨gx,2,none⟩),.pointer (some ⟨gx,3,none⟩),.pointer (some ⟨gx,4,none⟩),.pointer (some ⟨gx,5,none⟩),.pointer (some ⟨gx,6,none⟩),.pointer (some ⟨gx,7,none⟩),.pointer (some ⟨gx,8,none⟩),.pointer (some ⟨gx,9,none⟩),.pointer (some ⟨gx,10,none⟩)]) (.int .i64 xs.length)).run Tryz.prog w= .ok (.pointer (some ⟨gx,1+xs.length,none⟩)) w:=fun _=>by
     clear hcr htr fI Yy Qd;generalize xs.length=k at hlt;exact Y0
    go_wp2_with(go_at_call 109;((with_reducible refine Qd.out.mono ?_);rintro en w4 ⟨ht,⟨v4,q4,hr,rfl,hc,hb⟩|⟨f,hr,rfl,hb⟩⟩<;>have Wd:=h_ (dO.next htr.out ht)<;>have qX:=h_ hr<;>have og:=h_ hb<;>clear ht hr hb;all_goals(first|(have Bi:=h_ hc;clear hc)|skip)))
    ·have hb:=og.out;rw[C7 (by simp;omega)]at hb;exact⟨⟨xs++[v4],q4,by simp;omega,by simp,Bi.out,Wd.out,hb,by(show _=_);rw[List.length_append];exact qf Yy.out qX.out⟩,by simp[intOf];omega⟩
    ·refine⟨rfl,Wd.out,.inr ⟨_,vD HP.out (qd Yy.out qX.out hlt),rfl,?_⟩⟩;have h1:=og.out;rw[kr (by simp;omega)]at h1;exact h1
   ·have h4:xs.length= 10:=o_;have TZ:=Yy.out;rw[h4]at TZ;obtain⟨y0,y1,y2,y3,y4,y5,y6,y7,y8,y9,rfl⟩:∃y0 y1 y2 y3 y4 y5 y6 y7 y8 y9,xs=[y0,y1,y2,y3,y4,y5,y6,y7,y8,y9]:=by
     match xs,h4 with
     |[y0,y1,y2,y3,y4,y5,y6,y7,y8,y9],_=>exact ⟨y0,y1,y2,y3,y4,y5,y6,y7,y8,y9,rfl⟩
    replace HP:=h_ (yY HP.out TZ);clear TZ HC HT HX;have HC:=hcr;have HT:=htr;have HX:Hid (aU wr gx (bO v y0 y1 y2 y3 y4 y5 y6 y7 y8 y9 false none 0 0)):=fI;clear hcr htr fI Yy h4 hk hlt;have D3:∀(fn:Fn) (first cap:Array Value) (w:World),(Instr.makeFunc fn first cap).run Tryz.prog w= .ok (.func fn first cap) w:=fun _ _ _ _=>rfl
    go_wp2_with(first|(go_at_call 110;((with_reducible refine(Sd g c _ gx _ a bs _ _ HC.out hl HX.out hgx (by simp) (by simp)).mono ?_);rintro e w1 ⟨ht,⟨v,q,hr,rfl,hc,hb⟩|⟨f,hr,rfl,hb⟩⟩<;>replace HT:=h_ (dO.next HT.out ht)<;>first| (replace HP:=h_ (yY HP.out hr);replace HC:=h_ hc;replace HX:=h_ hb;clear ht hr hc hb)|(have HB:=h_ hb;have ZL:=h_ (vD HP.out hr);clear ht hr hb)))|(go_at_call 111;((with_reducible refine(LO g c _ gx 12 a bs _ _ HC.out hl HX.out hgx (by simp) (by simp)).mono ?_);rintro e w1 ⟨ht,⟨v,q,hr,rfl,hc,ad,k,hb,hd,hk⟩|⟨f,hr,rfl,hb⟩⟩<;>have hsz:=HT.size<;>replace HT:=h_ (dO.next HT.out ht)<;>first| (replace HP:=h_ (yY HP.out hr);replace HC:=h_ hc;replace HX:=h_ hb;have HD:=h_ (hd.mono hsz);have HK:=h_ hk;clear ht hr hc hb hd hk hsz)|(have HB:=h_ hb;have ZL:=h_ (vD HP.out hr);clear ht hr hb))))
    all_goals first
     |(first|go_end0| refine bodyPost_ret (results_none rfl _ _ _) rfl ?_);exact⟨HT.out,.inl ⟨_,_,HP.out,rfl,HC.out,(ad,k),HX.out,HD.out,HK.out⟩⟩
     |exact ⟨rfl,HT.out,.inr ⟨_,ZL.out,rfl,HB.out⟩⟩
 ·exact⟨rfl,HT.out,.inr ⟨_,ZL.out,rfl,HB.out⟩⟩
theorem KV(D g gx c:Nat)(a:Option Addr)(bs:List UInt8)(x:cR)(p:lI)(w:World)(h:Cw w D g a c bs)(hD:D≤ w.heap.size)(hx:aU w gx (jG x p))(hp:vU g w x p)(hok:zw x)(hgx:gx≠ g)(pz:∀o s,a≠some ⟨gx,o,s⟩)(hn:bs.length≤ 1000000):
 Calls Tryz.prog 61 #[.pointer (some ⟨g,0,none⟩),.pointer (some ⟨gx,0,none⟩)] w (uC w D g a (bs++gK x)):=by
 have HK:=h_ (show-128≤ x.kind∧x.kind< 128 from hok.kind);have HL:=h_ (show(x.bp.flatMap dV).length≤1000000∧ x.bp.length≤1000000 by have h1:=hok.size;have h2:=pP x.bp;unfold gK at h1;simp only[List.length_append]at h1;omega);have HR:=h_ hp.row;have HG:=h_ (kR.refl g a w);have HC:=h_ h;have HX:=h_ hx;have E4:=h_ hx;have HO:=h_ (And.intro hgx (And.intro (hx.lt (by simp)) pz));have Bt:=h_ (fun(a3:Option Addr) (wr:World) (_:True) (hg:kR g a a3 w wr)=>hp.row.yh h hg);clear h hx hp hok hgx pz;obtain⟨kind,aA,number,aC,aK,aq,ak,aM,bW,size,bN,closed,bp⟩:=x;obtain⟨p0,p1⟩:=p;simp only at HX E4 HK HL HR Bt;go_enter Tryz.func61,Tryz.ntmps61;go_upto_region 1 with(go_at_call 108;((with_reducible refine(Vf D g gx 0 _ _ _ kind _ HC.out (Nat.le_trans hD HG.out.size) (HX.out.cell (j:=0) (by simp)) (HX.out.cu (j:=0) (by simp)) HK.out HO.out.1 (HG.out.off HO.out.2.1 HO.out.2.2) (by first|omega| (simp only[List.length_append,gP,List.length_cons,List.length_nil];omega))).mono ?_);rintro en w1 ⟨a1,c1,rfl,lO,jd⟩;replace HX:=h_ (HX.yh (by simp) jd HO.1 (HG.off HO.2.1 HO.2.2));replace HR:=h_ (HR.yh HC.out jd);replace HG:=h_ (HG.trans jd);replace HC:=h_ lO;clear lO jd));go_quiet (fail);have EG:=h_ (HC.below (below_drewN (Below.refl w1.heap.size w1) nq));have EH:=h_ (HG.next (below_drewN (Below.refl w1.heap.size w1) nq));clear HC HG HX;have HC:=EG;have HG:=EH;clear EG EH;have HR0:=HR;generalize w1.drewN nq=w2 at HC HG ⊢;go_wp2;have TJ:Hid (∀k (h:k< ([aA,number,aC,aK,aq,ak,aM,bW,size,bN]:List Int).length),∀wr,aU wr gx (bO kind aA number aC aK aq ak aM bW size bN closed p0 bp.length p1)→wr.cell? ⟨gx,1+k,none⟩=some (.int .i64 (([aA,number,aC,aK,aq,ak,aM,bW,size,bN]:List Int)[k]))):=fun k h wr hb=>by
  rcases(show k=0∨ k=1∨ k=2∨ k=3∨ k=4∨ k=5∨ k=6∨ k=7∨ k=8∨ k=9 by simp at h;omega)with rfl|rfl| rfl|rfl| rfl|rfl| rfl|rfl| rfl|rfl<;>exact hb.cell rfl
 go_loopw [5,42] (fun _ i wr=>∃(k:Nat) (a3:Option Addr) (c3:Nat),k≤10∧ i= .int .i64 k∧Hid (Cw wr D g a3 c3 ((bs++[mY kind])++(([aA,number,aC,aK,aq,ak,aM,bW,size,bN]:List Int).take k).flatMap dV))∧Hid (kR g a a3 w wr)) (fun _ i _=>10- (intOf i).toNat)
 case atStart=>exact ⟨0,a1,c1,by omega,rfl,by show Cw _ _ _ _ _ _;simpa using HC.out,HG.out⟩
 case round=>
  obtain⟨k,a3,c3,hk,rfl,hcw,hgr⟩:=hrel;have II:D≤ wr.heap.size:=Nat.le_trans hD hgr.out.size;have U4:=hgr.out.off HO.2.1 HO.2.2;by_cases hlt:k< 10
  ·have Wq:k< ([aA,number,aC,aK,aq,ak,aM,bW,size,bN]:List Int).length:=hlt;have kU:=E4.yh (by simp) hgr.out HO.1 HO.2.2;have hll:((bs++[mY kind])++(([aA,number,aC,aK,aq,ak,aM,bW,size,bN]:List Int).take k).flatMap dV).length≤2000000:= by
    have h1:((([aA,number,aC,aK,aq,ak,aM,bW,size,bN]:List Int).take k).flatMap dV).length=(([aA,number,aC,aK,aq,ak,aM,bW,size,bN]:List Int).take k).length*8:= pP _;rw[List.length_append,h1,List.length_take]
    first|omega| (simp only[List.length_append,gP,List.length_cons,List.length_nil];omega)
   have Qd:=h_ (Ax D g gx (1+k) c3 a3 _ _ wr hcw.out II (TJ k Wq wr kU) HO.1 U4 o_);have uB:=h_ (show(bs++[mY kind])++(([aA,number,aC,aK,aq,ak,aM,bW,size,bN]:List Int).take (k+1)).flatMap dV=((bs++[mY kind])++(([aA,number,aC,aK,aq,ak,aM,bW,size,bN]:List Int).take k).flatMap dV)++dV (([aA,number,aC,aK,aq,ak,aM,bW,size,bN]:List Int)[k]'Wq) by rw[List.take_succ_eq_append_getElem Wq,List.flatMap_append,List.flatMap_singleton];simp only[List.append_assoc]);generalize([aA,number,aC,aK,aq,ak,aM,bW,size,bN]:List Int)[k]'Wq=vk at Qd uB;have Rg:∀w,(Instr.index 148 (.agg #[.pointer (some ⟨gx,1,none⟩),.pointer (some ⟨gx,2,none⟩),.pointer (some ⟨gx,3,none⟩),.pointer (some ⟨gx,4,none⟩),.pointer (some ⟨gx,5,none⟩),.pointer (some ⟨gx,6,none⟩),.pointer (some ⟨gx,7,none⟩),.pointer (some ⟨gx,8,none⟩),.pointer (some ⟨gx,9,none⟩),.pointer (some ⟨gx,10,none⟩)]) (.int .i64 k)).run Tryz.prog w= .ok (.pointer (some ⟨gx,1+k,none⟩)) w:=fun _=>by
    clear hcw hgr Qd uB hll Wq kU U4 II;exact Y0
   clear hll Wq kU;go_wp2_with(go_at_call 109;((with_reducible refine Qd.out.mono ?_);rintro en w4 ⟨a4,c4,rfl,Od,Oi⟩;have Bi:=h_ Od;have MR:=h_ Oi;clear Od Oi));exact⟨⟨k+1,a4,c4,by omega,by go_num,by show Cw _ _ _ _ _ _;rw[uB.out];exact Bi.out,hgr.out.trans MR.out⟩,by simp[intOf];omega⟩
  ·obtain rfl:k= 10:=o_;have HC':=hcw;have HG':=hgr;have HX':=h_ (E4.yh (by simp) hgr.out HO.1 HO.2.2);have Xt:=h_ (Bt _ _ trivial hgr.out);clear HC HG hcw hgr II U4;have HC:=HC';have HG:=HG';have HX:=HX';have HR:=Xt;have D3:∀(fn:Fn) (first cap:Array Value) (w:World),(Instr.makeFunc fn first cap).run Tryz.prog w= .ok (.func fn first cap) w:=fun _ _ _ _=>rfl
   have Rj:=pP ([aA,number,aC,aK,aq,ak,aM,bW,size,bN]);simp only[List.take_of_length_le (show([aA,number,aC,aK,aq,ak,aM,bW,size,bN]:List Int).length≤10 from Nat.le_refl _)]at HC;generalize hB:(bs++[mY kind])++([aA,number,aC,aK,aq,ak,aM,bW,size,bN]:List Int).flatMap dV=b1 at HC;have hbl:b1.length≤ 1000081:=by rw[←hB,List.length_append,List.length_append,Rj];simp;omega
   have Bh:=h_ hB;clear hB Rj;go_wp2_with(first|(go_at_call 110;((with_reducible refine(Sg D g gx 11 _ _ _ closed _ HC.out (Nat.le_trans hD HG.out.size) (HX.out.cell (j:=11) (by simp)) (HX.out.cu (j:=11) (by simp)) HO.out.1 (HG.out.off HO.out.2.1 HO.out.2.2) (by first|omega| (simp only[List.length_append,gP,List.length_cons,List.length_nil];omega))).mono ?_);rintro en w1 ⟨a1,c1,rfl,lO,jd⟩;replace HX:=h_ (HX.yh (by simp) jd HO.1 (HG.off HO.2.1 HO.2.2));replace HR:=h_ (HR.yh HC.out jd);replace HG:=h_ (HG.trans jd);replace HC:=h_ lO;clear lO jd))|(go_at_call 111;((with_reducible refine(LP D g gx 12 _ bp.length p1 _ p0 _ bp _ HC.out (Nat.le_trans hD HG.out.size) (HX.out.cell (j:=12) (by simp)) rfl HR.out HO.out.1 (HG.out.off HO.out.2.1 HO.out.2.2) (by first|omega| (simp only[List.length_append,gP,List.length_cons,List.length_nil];omega)) HL.out.1 HL.out.2).mono ?_);rintro en w1 ⟨a1,c1,rfl,lO,jd⟩;replace HG:=h_ (HG.trans jd);replace HC:=h_ lO;clear lO jd)))
   first|go_end0| refine bodyPost_ret (results_none rfl _ _ _) rfl ?_
   refine⟨a1,c1,rfl,?_,HG.out⟩;have hc:=HC.out;rw[←Bh.out]at hc;simp only[List.append_assoc,List.flatMap_cons,List.flatMap_nil,List.append_nil]at hc;unfold gK;simp only[List.append_assoc];exact hc
end Go.Proofs.YtfdmhpohfjbpfaaGreat
