import Derived.Test.YtfdmhpohfjbpfaaGreatSrRefCheckSt
import Derived.Test.YtfdmhpohfjbpfaaGreatSrStaOwn
set_option linter.unusedVariables false
set_option linter.unusedSimpArgs false
namespace Go.Proofs.YtfdmhpohfjbpfaaGreat
open Go.ChangeShapes Go.WideShapes Go.ChangeAt Go.RowKit
set_option maxRecDepth 100000
set_option maxHeartbeats 16000000
theorem zL{l:List bR}{k:Nat}(h:k< l.length)(hk:eV (l.take k)=true)(h1:cU bR.ak 0 (l.take k)<l[k].ak)(h2:l[k].ak≤8)(h3:1≤ l[k].aM)(h4:1≤ l[k].number):eV (l.take (k+1))=true:= by
 unfold eV at*;rw[mv h,hk];simp[rW,h1,h2,h3,h4]
theorem CN{l:List bR}{k:Nat}(h:k< l.length)(h1:¬(cU bR.ak 0 (l.take k)<l[k].ak∧l[k].ak≤8∧ 1≤l[k].aM∧1≤ l[k].number)):eV l=false:= by
 refine rh h ?_;unfold rW;by_cases a:cU bR.ak 0 (l.take k)<l[k].ak<;>by_cases b:l[k].ak≤8<;>by_cases c:1≤ l[k].aM<;>by_cases d:1≤ l[k].number<;>simp [a,b,c,d]
 exact h1 ⟨a,b,c,d⟩
theorem A7(s:St):bX s=(decide (0≤s.term∧ 0≤s.ag)&&(dg s.cd&&(cp s&&eV s.aP))):=rfl
theorem wj(s:St)(r:Raw)(B:Nat)(w:World)(h:aX w B r s)(cC:s.ax.length≤ 900)(hl2:s.ai.length≤ 900)(cS:s.cd.length≤ 900)(hl4:s.aP.length≤ 900):
 Calls Tryz.prog 21 #[r.agg] w fun e w'=>e= .returned (.bool (bX s))∧Below w.heap.size w w':=by
 have HE:=h_ (A7 s);have HB:=h_ (fun k (h:k< s.aP.length)=>CN h);have HT:Hid (eV (s.aP.take s.aP.length)=true→ eV s.aP=true):=fun h=>by rw[List.take_length]at h;exact h
 have H0:Hid (eV (s.aP.take 0)=true):=rfl;have HN:=h_ (fun k (h:k< s.aP.length)=>zL h);have HL:=h_ (fun k (h:k< s.aP.length)=>jt (key:=bR.ak) (a:=0) h);have TM:Hid (∀k,eV (s.aP.take k)=true→ 0≤cU bR.ak 0 (s.aP.take k)):=fun k h=>pT h
 have fZ:=h_ (fun w' (hb:Below w.heap.size w w')=>gY s r B w' (h.below hb) cC hl2);have Na:=h_ (fun w' (hb:Below w.heap.size w w')=>rU s.cd r.eY.a r.eY.n r.eY.c w' h.eY.len (bD (by have:=h.eY.len;omega)) (h.eY.row.below hb));have HD:=h_ h.ft.tocK;have Cz:=h_ hl4;generalize Qo:cp s=so at fZ HE;generalize I1:dg s.cd=se at Na HE;generalize JZ:eV s.aP=dk at HB HT HE;generalize bX s=res at HE ⊢;obtain⟨term,ag,next,⟨a1,n1,c1⟩,⟨a2,n2,c2⟩,⟨a3,n3,c3⟩,⟨a4,n4,c4⟩⟩:=r;have hq1:=h.term;have hq2:=h.ag;simp only at hq1 hq2;rw[←hq1,←hq2]at HE;have lH:Hid (Below w.heap.size w (w.alloc (.cells (aw term ag next a1 n1 c1 a2 n2 c2 a3 n3 c3 a4 n4 c4) 27))):=ah b_;have E4:Hid (aU (w.alloc (.cells (aw term ag next a1 n1 c1 a2 n2 c2 a3 n3 c3 a4 n4 c4) 27)) w.heap.size (Raw.cells ⟨term,ag,next,⟨a1,n1,c1⟩,⟨a2,n2,c2⟩,⟨a3,n3,c3⟩,⟨a4,n4,c4⟩⟩)):=aU.aR (w:=w) b_;clear h cC hl2 cS hl4 Qo I1 JZ hq1 hq2;have k0:=E4.cell (j:=0) rfl;have k1:=E4.cell (j:=1) rfl;have k5:=E4.cell (j:=5) rfl;by_cases g1:term< 0
 ·have HR:Hid (res=false):=by show _=_;rw[HE.out,decide_eq_false o_];rfl
  have d1:decide (term<0)=true:= decide_eq_true g1;go_enter Tryz.func21,Tryz.ntmps21;go_wp2;go_returns;exact⟨bZ HR.symm,lH.out⟩
 have d1:decide (term<0)=false:= decide_eq_false g1;by_cases g2:ag< 0
 ·have HR:Hid (res=false):=by show _=_;rw[HE.out,decide_eq_false o_];rfl
  have d2:decide (ag<0)=true:= decide_eq_true g2;go_enter Tryz.func21,Tryz.ntmps21;go_wp2;go_returns;exact⟨bZ HR.symm,lH.out⟩
 have d2:decide (ag<0)=false:= decide_eq_false g2;replace HE:Hid (res=(se&&(so&&dk))):=by show _=_;rw[HE.out,decide_eq_true o_];rfl
 clear g1 g2;cases se with
 |false=>
  have HR:Hid (res=false):=HE;go_enter Tryz.func21,Tryz.ntmps21;go_wp2_with(go_at_call 42;((with_reducible refine(Na.out _ lH.out).mono ?_);rintro e w1 ⟨rfl,hb1⟩;have iJ:=h_ (lH.trans (hb1.mono lH.size));have iO:=h_ (E4.next (by simp) hb1);have q1:=iJ.size;clear k0 k1 k5 hb1;obtain⟨k0,k1,k2,k3,k4,k5,k6⟩:=bP iO.range;simp only at k0 k1 k2 k3 k4 k5 k6));go_returns;exact⟨bZ HR.symm,iJ.out⟩
 |true=>
 cases so with
 |false=>
  have HR:Hid (res=false):=HE;go_enter Tryz.func21,Tryz.ntmps21;go_wp2_with(first|((with_reducible refine bC 27 (.tmp 1) ?_);refine aa aG rfl (.tmp 1) rfl w.heap.size 0 rfl ⟨term,ag,next,⟨a1,n1,c1⟩,⟨a2,n2,c2⟩,⟨a3,n3,c3⟩,⟨a4,n4,c4⟩⟩ (.agg (aw term ag next a1 n1 c1 a2 n2 c2 a3 n3 c3 a4 n4 c4)) rfl iO.range ?_)|(go_at_call 42;((with_reducible refine(Na.out _ lH.out).mono ?_);rintro e w1 ⟨rfl,hb1⟩;have iJ:=h_ (lH.trans (hb1.mono lH.size));have iO:=h_ (E4.next (by simp) hb1);have q1:=iJ.size;clear k0 k1 k5 hb1;obtain⟨k0,k1,k2,k3,k4,k5,k6⟩:=bP iO.range;simp only at k0 k1 k2 k3 k4 k5 k6))|(go_at_call 43;((with_reducible refine(fZ.out _ iJ.out).mono ?_);rintro e w2 ⟨rfl,hb2⟩;have nO:=h_ (iJ.trans (hb2.mono iJ.size));have Bk:=h_ (iO.next (by simp) hb2);have q2:=nO.size;clear k0 k1 k2 k3 k4 k5 k6 hb2;obtain⟨k0,k1,k2,k3,k4,k5,k6⟩:=bP Bk.range;simp only at k0 k1 k2 k3 k4 k5 k6)));go_returns;exact⟨bZ HR.symm,nO.out⟩
 |true=>
 replace HE:Hid (res=dk):=HE;go_enter Tryz.func21,Tryz.ntmps21;go_wp2_with(first|((with_reducible refine bC 27 (.tmp 1) ?_);refine aa aG rfl (.tmp 1) rfl w.heap.size 0 rfl ⟨term,ag,next,⟨a1,n1,c1⟩,⟨a2,n2,c2⟩,⟨a3,n3,c3⟩,⟨a4,n4,c4⟩⟩ (.agg (aw term ag next a1 n1 c1 a2 n2 c2 a3 n3 c3 a4 n4 c4)) rfl iO.range ?_)|(go_at_call 42;((with_reducible refine(Na.out _ lH.out).mono ?_);rintro e w1 ⟨rfl,hb1⟩;have iJ:=h_ (lH.trans (hb1.mono lH.size));have iO:=h_ (E4.next (by simp) hb1);have q1:=iJ.size;clear k0 k1 k5 hb1;obtain⟨k0,k1,k2,k3,k4,k5,k6⟩:=bP iO.range;simp only at k0 k1 k2 k3 k4 k5 k6))|(go_at_call 43;((with_reducible refine(fZ.out _ iJ.out).mono ?_);rintro e w2 ⟨rfl,hb2⟩;have nO:=h_ (iJ.trans (hb2.mono iJ.size));have Bk:=h_ (iO.next (by simp) hb2);have q2:=nO.size;clear k0 k1 k2 k3 k4 k5 k6 hb2;obtain⟨k0,k1,k2,k3,k4,k5,k6⟩:=bP Bk.range;simp only at k0 k1 k2 k3 k4 k5 k6)));obtain rfl:s.aP.length= n4:=HD.len;have Z0:=Cz.out;generalize(Raw.agg ⟨term,ag,next,⟨a1,n1,c1⟩,⟨a2,n2,c2⟩,⟨a3,n3,c3⟩,⟨a4,s.aP.length,c4⟩⟩)=v0;generalize(Value.agg (aw term ag next a1 n1 c1 a2 n2 c2 a3 n3 c3 a4 s.aP.length c4))=v21;go_loopw [3,28] (fun la i wr=>∃k: Nat,k≤s.aP.length∧ i= .int .i64 k∧la= .int .i64 (cU bR.ak 0 (s.aP.take k))∧Hid (eV (s.aP.take k)=true)∧Hid (Below w2.heap.size w2 wr)) (fun _ i _=>s.aP.length- (intOf i).toNat)
 case atStart=>exact ⟨0,by omega,rfl,rfl,H0,Below.refl _ _⟩
 case round=>
  obtain⟨k,hk,rfl,rfl,hok,hbr⟩:=hrel;have kU:Below w.heap.size w wr:=nO.trans (hbr.out.mono nO.size);have yF:=h_ kU;clear kU k0 k1 k2 k3 k4 k5 k6;by_cases hlt:k< s.aP.length
  ·obtain⟨b,o,rfl,hcs⟩:=bF.range HD.row hlt;have gB:=h_ (hcs _ yF.out);have xW:=h_ (HB k hlt);have pn:=h_ (HN k hlt hok.out);have qj:=h_ (HL k hlt);clear hcs;generalize s.aP[k]=x at gB xW pn qj;generalize cU bR.ak 0 (s.aP.take k)=la at xW pn ⊢;obtain⟨x0,x1,x2,⟨xe,xr,xb,xl,xz⟩⟩:=x;by_cases hgo:la< x0∧x0≤ 8∧1≤ x1∧1≤ x2
   ·obtain⟨h1,h2,h3,h4⟩:=hgo;have zm:=h_ (pn h1 h2 h3 h4);go_wp2_with(first|((with_reducible refine bC 66 (.tmp 30) ?_);refine aa ay rfl (.tmp 30) rfl b (o+k* 8) rfl ⟨x0,x1,x2,⟨xe,xr,xb,xl,xz⟩⟩ (.agg (GY x0 x1 x2 xe xr xb xl xz)) rfl gB.out ?_)|((with_reducible refine aO 66 (.tmp 5) (.tmp 31) ?_);refine aI ay rfl (.tmp 5) (.tmp 31) rfl ⟨x0,x1,x2,⟨xe,xr,xb,xl,xz⟩⟩ rfl rfl rfl ?_;intro w7 eO _ cL kP;have iZ:=h_ cL;obtain⟨p0,p1,p2,_⟩:=dw eO;simp only[Nat.zero_add]at p0 p1 p2;clear eO cL));go_roundw
    case rel=>exact ⟨k+1,by omega,by go_num,by rw[qj.out],zm.out,hbr.out.trans (iZ.mono hbr.out.size)⟩
    case measure=>simp [intOf];omega
   ·have HG:=h_ hgo;have HO:=h_ (xW hgo);clear hgo;go_wp2_with(first|((with_reducible refine bC 66 (.tmp 30) ?_);refine aa ay rfl (.tmp 30) rfl b (o+k* 8) rfl ⟨x0,x1,x2,⟨xe,xr,xb,xl,xz⟩⟩ (.agg (GY x0 x1 x2 xe xr xb xl xz)) rfl gB.out ?_)|((with_reducible refine aO 66 (.tmp 5) (.tmp 31) ?_);refine aI ay rfl (.tmp 5) (.tmp 31) rfl ⟨x0,x1,x2,⟨xe,xr,xb,xl,xz⟩⟩ rfl rfl rfl ?_;intro w7 eO _ cL kP;have iZ:=h_ cL;obtain⟨p0,p1,p2,_⟩:=dw eO;simp only[Nat.zero_add]at p0 p1 p2;clear eO cL))
    all_goals first
     |(go_returns;exact⟨bZ (HE.trans HO.out).symm,yF.trans (iZ.mono yF.size)⟩)
     |(exfalso;have:=HG.out;omega)
  ·obtain rfl:k= s.aP.length:=o_;have HO:=h_ (HT hok.out);go_wp2;go_returns;exact⟨bZ (HE.trans HO.out).symm,yF.out⟩
theorem Mp(b:Int)(w:World)(hb:b≤ 1000000000):Calls Tryz.prog 177 #[.int .i64 b] w fun e w'=>e= .returned (.int .i64 (max b 0/1000))∧w= w':=by
 by_cases h0:0≤ b
 ·have h2:b.tdiv 1000=b/ 1000:=Int.tdiv_eq_ediv_of_nonneg h0;go_enter Tryz.func177,Tryz.ntmps177;go_wp2;go_returns;exact⟨dZ o_,rfl⟩
 ·go_enter Tryz.func177,Tryz.ntmps177;go_wp2;go_returns;exact⟨dZ o_,rfl⟩
theorem Ez(b:Int)(w:World)(hb:b≤ 1000000000):Calls Tryz.prog 173 #[.int .i64 b] w fun e w'=>e= .returned (.int .i64 (max b 0/1000))∧w= w':=by
 by_cases h0:0≤ b
 ·have h2:b.tdiv 1000=b/ 1000:=Int.tdiv_eq_ediv_of_nonneg h0;go_enter Tryz.func173,Tryz.ntmps173;go_wp2;go_returns;exact⟨dZ o_,rfl⟩
 ·go_enter Tryz.func173,Tryz.ntmps173;go_wp2;go_returns;exact⟨dZ o_,rfl⟩
def DB(w:World)(r:Int× Int)(e:Ending)(w':World):Prop:= e= .returned (.tuple (Kf r.1 r.2))∧Below w.heap.size w w'
theorem GQ(b size:Int)(w:World)(h0:0≤ b)(h1:b≤ 1000000000):Calls Tryz.prog 165 (Kf b size) w (DB w (gi b size)):=by
 have HW:=h_ (Mp b w h1);have HT:Hid (gi b size=if size<0∨ max b 0/1000< size then(0,170)else(b-1000* size,0)):=rfl;generalize gi b size=res at HT ⊢;have hq:0≤ max b 0/1000∧ max b 0/1000≤ 1000000∧1000* (max b 0/1000)≤max b 0:=o_;generalize max b 0/1000= q at HW HT hq;obtain⟨hq1,hq2,Hf⟩:=hq
 go_each [size<0,q<size]=>(
  go_enter Tryz.func165,Tryz.ntmps165;go_wp2_with(go_at_call 177;((with_reducible refine HW.out.mono ?_);rintro e w' ⟨rfl,rfl⟩));go_returns;unfold DB;rw[HT.out]
  first|(rw[if_pos o_];exact⟨rfl,Below.refl _ _⟩)|(rw[if_neg o_];exact⟨rfl,Below.refl _ _⟩))
theorem xP(b size:Int)(w:World)(h0:0≤ b)(h1:b≤ 1000000000):Calls Tryz.prog 148 (Kf b size) w (DB w (gi b size)):=by
 have HW:=h_ (Ez b w h1);have HT:Hid (gi b size=if size<0∨ max b 0/1000< size then(0,170)else(b-1000* size,0)):=rfl;generalize gi b size=res at HT ⊢;have hq:0≤ max b 0/1000∧ max b 0/1000≤ 1000000∧1000* (max b 0/1000)≤max b 0:=o_;generalize max b 0/1000= q at HW HT hq;obtain⟨hq1,hq2,Hf⟩:=hq
 go_each [size<0,q<size]=>(
  go_enter Tryz.func148,Tryz.ntmps148;go_wp2_with(go_at_call 173;((with_reducible refine HW.out.mono ?_);rintro e w' ⟨rfl,rfl⟩));go_returns;unfold DB;rw[HT.out]
  first|(rw[if_pos o_];exact⟨rfl,Below.refl _ _⟩)|(rw[if_neg o_];exact⟨rfl,Below.refl _ _⟩))
def iC(BB:Nat)(w:World)(r:St× bS)(e:Ending)(w':World):Prop:= ∃q,e= .returned (.tuple #[Raw.agg q,r.2.agg])∧aX w' BB q r.1∧Below w.heap.size w w'
theorem oK{w:World}{b:Nat}{t:bS}(h:w.rangeAt b 0 t.cells):w.cell? ⟨b,0,none⟩=some (.int .i64 t.e)∧w.cell? ⟨b,1,none⟩=some (.int .i64 t.aK)∧w.cell? ⟨b,2,none⟩=some (.int .i64 t.aq)∧w.cell? ⟨b,3,none⟩=some (.int .i64 t.bW)∧w.cell? ⟨b,4,none⟩=some (.int .i64 t.size):=by
 have h0:=h 0 _ rfl;have h1:=h 1 _ rfl;have h2:=h 2 _ rfl;have h3:=h 3 _ rfl;have h4:=h 4 _ rfl;simp only[Nat.zero_add]at h0 h1 h2 h3 h4;exact⟨h0,h1,h2,h3,h4⟩
theorem rX{ts:List aj}{id:Int}{x:aj}(ht:aZ 0 ts=true)(h:bf ts id=(x,true)):0≤ x.bucket∧x.bucket≤ 1000000000:=by
 rw[fO id ht]at h;cases hf:dD ts id with
 |none=> rw[hf]at h;cases h
 |some y=>
  rw[hf]at h;simp only[Prod.mk.injEq,and_true]at h;subst h;have:=pd ht (ie hf).1;omega
theorem uf(b sz:Int):gi b sz=(0,170)∨gi b sz=(b-1000* sz,0):=by
 unfold gi;split
 ·exact .inl rfl
 ·exact .inr rfl
theorem JX:sG Tryz.prog 23 59 7 56:=aJ.elem Tryz.underlying23
theorem vA(ts:List aj)(x:aj):(mE ts x).1.length≤ts.length+ 1:=by
 unfold mE
 split
 ·exact qg x ts
 ·simp
theorem Y2 {P:Prop}(h:P:=by
 obtain⟨z0,z1,z2,z3,z4,z5,z6⟩:=bP Qg.box.range;obtain⟨j0,j1,j2,j3,j4⟩:=cz VR.out;refine bodyPost_ret (v:= .tuple #[Raw.agg ⟨u1,u2,u3,⟨b1,m1,d1⟩,⟨b2,m2,d2⟩,⟨b3,m3,d3⟩,⟨b4,m4,d4⟩⟩,bS.agg (bS.err 2)]) (by simp[results,Tryz.results15,bS.err,go_sem,z0,z1,z2,z3,z4,z5,z6,j0,j1,j2,j3,j4]) rfl ?_
 exact⟨_,rfl,Qh.out,VS.out⟩):P:=h
theorem KN(s:St)(r:Raw)(x:iD)(px:tF)(w:World)(h:aX w 0 r s)(hsm:Small s)(hbad:bX s=false∨ x.term<1∨ x.ag<0∨ x.kind<0∨ 2<x.kind):
 Calls Tryz.prog 15 #[r.agg,fw x px] w (iC w.heap.size w (s,bS.err 2)):=by
 obtain⟨nU,nV,nW,mW⟩:=hsm;obtain⟨t1,t2,t3,⟨a1,n1,c1⟩,⟨a2,n2,c2⟩,⟨a3,n3,c3⟩,⟨a4,n4,c4⟩⟩:=r;unfold fw;have aF:Hid (Below w.heap.size w ((((w.alloc (.cells (aw t1 t2 t3 a1 n1 c1 a2 n2 c2 a3 n3 c3 a4 n4 c4) 27)).alloc (.cells (cW x.term x.kind x.ag x.set px.1 x.data.length px.2) 45)).alloc (.cells aS 27)).alloc (.cells dB 40))):=ah (ah (ah (ah b_)));have aQ:Hid (ct ((((w.alloc (.cells (aw t1 t2 t3 a1 n1 c1 a2 n2 c2 a3 n3 c3 a4 n4 c4) 27)).alloc (.cells (cW x.term x.kind x.ag x.set px.1 x.data.length px.2) 45)).alloc (.cells aS 27)).alloc (.cells dB 40)) w.heap.size (Raw.cells ⟨t1,t2,t3,⟨a1,n1,c1⟩,⟨a2,n2,c2⟩,⟨a3,n3,c3⟩,⟨a4,n4,c4⟩⟩)):=ct.aR (w:=w) (ah (ah (ah b_)));have dL:Hid (ct ((((w.alloc (.cells (aw t1 t2 t3 a1 n1 c1 a2 n2 c2 a3 n3 c3 a4 n4 c4) 27)).alloc (.cells (cW x.term x.kind x.ag x.set px.1 x.data.length px.2) 45)).alloc (.cells aS 27)).alloc (.cells dB 40)) (w.heap.size+1) (lM x px)):=by
  have:=ct.aR (w:=w.alloc (.cells (aw t1 t2 t3 a1 n1 c1 a2 n2 c2 a3 n3 c3 a4 n4 c4) 27)) (cs:=lM x px) (t:=45) (ah (ah b_):Below _ _ ((((w.alloc (.cells (aw t1 t2 t3 a1 n1 c1 a2 n2 c2 a3 n3 c3 a4 n4 c4) 27)).alloc (.cells (cW x.term x.kind x.ag x.set px.1 x.data.length px.2) 45)).alloc (.cells aS 27)).alloc (.cells dB 40)));rw[World.size_alloc]at this;exact this
 have bT:Hid (ct ((((w.alloc (.cells (aw t1 t2 t3 a1 n1 c1 a2 n2 c2 a3 n3 c3 a4 n4 c4) 27)).alloc (.cells (cW x.term x.kind x.ag x.set px.1 x.data.length px.2) 45)).alloc (.cells aS 27)).alloc (.cells dB 40)) (w.heap.size+1+ 1) (Raw.cells ⟨0,0,0,⟨none,0,0⟩,⟨none,0,0⟩,⟨none,0,0⟩,⟨none,0,0⟩⟩)):=by
  have:=ct.aR (w:=(w.alloc (.cells (aw t1 t2 t3 a1 n1 c1 a2 n2 c2 a3 n3 c3 a4 n4 c4) 27)).alloc (.cells (cW x.term x.kind x.ag x.set px.1 x.data.length px.2) 45)) (cs:=Raw.cells ⟨0,0,0,⟨none,0,0⟩,⟨none,0,0⟩,⟨none,0,0⟩,⟨none,0,0⟩⟩) (t:=27) (ah b_:Below _ _ ((((w.alloc (.cells (aw t1 t2 t3 a1 n1 c1 a2 n2 c2 a3 n3 c3 a4 n4 c4) 27)).alloc (.cells (cW x.term x.kind x.ag x.set px.1 x.data.length px.2) 45)).alloc (.cells aS 27)).alloc (.cells dB 40)));rw[World.size_alloc,World.size_alloc]at this;exact this
 have bM:Hid (ct ((((w.alloc (.cells (aw t1 t2 t3 a1 n1 c1 a2 n2 c2 a3 n3 c3 a4 n4 c4) 27)).alloc (.cells (cW x.term x.kind x.ag x.set px.1 x.data.length px.2) 45)).alloc (.cells aS 27)).alloc (.cells dB 40)) (w.heap.size+1+ 1+1) qh.cells):=by
  have:=dY (((w.alloc (.cells (aw t1 t2 t3 a1 n1 c1 a2 n2 c2 a3 n3 c3 a4 n4 c4) 27)).alloc (.cells (cW x.term x.kind x.ag x.set px.1 x.data.length px.2) 45)).alloc (.cells aS 27));rw[World.size_alloc,World.size_alloc,World.size_alloc]at this;exact this
 have bq:Hid (aX ((((w.alloc (.cells (aw t1 t2 t3 a1 n1 c1 a2 n2 c2 a3 n3 c3 a4 n4 c4) 27)).alloc (.cells (cW x.term x.kind x.ag x.set px.1 x.data.length px.2) 45)).alloc (.cells aS 27)).alloc (.cells dB 40)) 0 ⟨t1,t2,t3,⟨a1,n1,c1⟩,⟨a2,n2,c2⟩,⟨a3,n3,c3⟩,⟨a4,n4,c4⟩⟩ s):=h.below aF.out;have hb':x.term< 1∨(¬x.term< 1∧x.ag< 0)∨(¬x.term< 1∧¬x.ag< 0∧x.kind< 0)∨(¬x.term< 1∧¬x.ag< 0∧¬x.kind< 0∧2< x.kind)∨(¬x.term< 1∧¬x.ag< 0∧¬x.kind< 0∧¬2< x.kind∧bX s=false):=by
  by_cases e1:x.term< 1
  ·exact .inl e1
  by_cases e2:x.ag< 0
  ·exact .inr (.inl ⟨e1,e2⟩)
  by_cases e3:x.kind< 0
  ·exact .inr (.inr (.inl ⟨e1,e2,e3⟩))
  by_cases e4:2< x.kind
  ·exact .inr (.inr (.inr (.inl ⟨e1,e2,e3,e4⟩)))
  ·exact .inr (.inr (.inr (.inr ⟨e1,e2,e3,e4,by rcases hbad with h1|h1| h1|h1| h1;exact h1;all_goals omega⟩)))
 clear hbad;clear h;go_enter Tryz.func15,Tryz.ntmps15;go_upto_region 1 with fail;obtain⟨w1,hw1⟩:∃y,y=((((w.alloc (.cells (aw t1 t2 t3 a1 n1 c1 a2 n2 c2 a3 n3 c3 a4 n4 c4) 27)).alloc (.cells (cW x.term x.kind x.ag x.set px.1 x.data.length px.2) 45)).alloc (.cells aS 27)).alloc (.cells dB 40)):=⟨_,rfl⟩;rw[←hw1]at aF aQ dL bT bM bq ⊢;have hz1:w.heap.size+ 1+1+ 1<w1.heap.size:= bM.lt;clear hw1;have k0:=dL.box.cell (j:=0) rfl;go_upto_region 2 with(first|((with_reducible refine bC 27 (.tmp 2) ?_);refine aa aG rfl (.tmp 2) rfl w.heap.size 0 rfl ⟨t1,t2,t3,⟨a1,n1,c1⟩,⟨a2,n2,c2⟩,⟨a3,n3,c3⟩,⟨a4,n4,c4⟩⟩ (.agg (aw t1 t2 t3 a1 n1 c1 a2 n2 c2 a3 n3 c3 a4 n4 c4)) rfl aQ.box.range ?_)|(go_at_call 22;((with_reducible refine(yT s _ 0 w1 bq.out o_ o_ o_ o_).mono ?_);rintro e w2 ⟨⟨u1,u2,u3,⟨b1,m1,d1⟩,⟨b2,m2,d2⟩,⟨b3,m3,d3⟩,⟨b4,m4,d4⟩⟩,rfl,hst,hb⟩;have HN:=h_ (aX.mono (B':=w.heap.size) hst o_);replace aF:=h_ (aF.trans (hb.mono aF.size));replace aQ:=h_ (aQ.next hb);replace dL:=h_ (dL.next hb);replace bT:=h_ (bT.next hb);replace bM:=h_ (bM.next hb);clear hst hb bq))|((with_reducible refine aO 27 (.tmp 2) (.tmp 13) ?_);refine au aG rfl (.tmp 2) (.tmp 13) rfl w.heap.size ⟨u1,u2,u3,⟨b1,m1,d1⟩,⟨b2,m2,d2⟩,⟨b3,m3,d3⟩,⟨b4,m4,d4⟩⟩ _ rfl rfl aQ.out rfl ?_;intro w3 hx hw;have bq:=h_ (HN.wrote aQ.out (bB _) hw);replace aF:=h_ (aF.trans (hw.below _ n_));replace aQ:=h_ hx;replace dL:=h_ (dL.wrote hw o_);replace bT:=h_ (bT.wrote hw o_);replace bM:=h_ (bM.wrote hw o_);clear hx hw HN k0));have hz3:w.heap.size+ 1+1+ 1<w3.heap.size:= bM.lt;have k0:=dL.box.cell (j:=0) rfl;have k1:=dL.box.cell (j:=1) rfl;have k2:=dL.box.cell (j:=2) rfl;rcases hb' with e1|⟨e1,e2⟩|⟨e1,e2,e3⟩|⟨e1,e2,e3,e4⟩|⟨e1,e2,e3,e4,e5⟩
 iterate 4
  ·skip;go_wp2_with(first|((with_reducible refine bC 27 (.tmp 2) ?_);refine aa aG rfl (.tmp 2) rfl w.heap.size 0 rfl ⟨u1,u2,u3,⟨b1,m1,d1⟩,⟨b2,m2,d2⟩,⟨b3,m3,d3⟩,⟨b4,m4,d4⟩⟩ (.agg (aw u1 u2 u3 b1 m1 d1 b2 m2 d2 b3 m3 d3 b4 m4 d4)) rfl aQ.box.range ?_)|((with_reducible refine aO 27 (.tmp 4) (.tmp 37) ?_);refine au aG rfl (.tmp 4) (.tmp 37) rfl (w.heap.size+1+ 1) ⟨u1,u2,u3,⟨b1,m1,d1⟩,⟨b2,m2,d2⟩,⟨b3,m3,d3⟩,⟨b4,m4,d4⟩⟩ _ rfl rfl bT.out rfl ?_;intro wy hx hw;have Ub:=h_ (bq.wrote bT.out (bB _) hw);have T7:=h_ hx;have ML:=h_ (bM.wrote hw o_);have TI:=h_ (aF.trans (hw.below _ o_));clear hx hw)|((with_reducible refine aO 40 (.tmp 5) (.tmp 38) ?_);refine au bA rfl (.tmp 5) (.tmp 38) rfl (w.heap.size+1+ 1+1) (bS.err 2) _ rfl rfl ML.out rfl ?_;intro wz hx hw;have Qh:=h_ (Ub.wrote ML.out (bj _) hw);have Qg:=h_ (T7.wrote hw o_);have VR:=h_ hx;have VS:=h_ (TI.trans (hw.below _ o_));clear hx hw));exact Y2
 ·have fT:=h_ e5;have q1:decide (x.term<1)=false:= decide_eq_false o_;have q2:decide (x.ag<0)=false:= decide_eq_false o_;have q3:decide (x.kind<0)=false:= decide_eq_false o_;have q4:decide (2<x.kind)=false:= decide_eq_false o_;clear e1 e2 e3 e4 e5;go_wp2_with(first|(go_at_call 21;((with_reducible refine(wj s _ _ w3 bq.out o_ o_ o_ o_).mono ?_);rw[fT.out];rintro e w4 ⟨rfl,hb⟩;replace aF:=h_ (aF.trans (hb.mono aF.size));replace aQ:=h_ (aQ.next hb);replace dL:=h_ (dL.next hb);replace bT:=h_ (bT.next hb);replace bM:=h_ (bM.next hb);replace bq:=h_ (bq.below hb);have MD:=hb.size;clear hb k0 k1 k2))|((with_reducible refine bC 27 (.tmp 2) ?_);refine jw (by rfl) ?_;refine aa aG rfl (.tmp 2) rfl w.heap.size 0 rfl ⟨u1,u2,u3,⟨b1,m1,d1⟩,⟨b2,m2,d2⟩,⟨b3,m3,d3⟩,⟨b4,m4,d4⟩⟩ (.agg (aw u1 u2 u3 b1 m1 d1 b2 m2 d2 b3 m3 d3 b4 m4 d4)) rfl aQ.box.range ?_)|((with_reducible refine bC 27 (.tmp 2) ?_);refine aa aG rfl (.tmp 2) rfl w.heap.size 0 rfl ⟨u1,u2,u3,⟨b1,m1,d1⟩,⟨b2,m2,d2⟩,⟨b3,m3,d3⟩,⟨b4,m4,d4⟩⟩ (.agg (aw u1 u2 u3 b1 m1 d1 b2 m2 d2 b3 m3 d3 b4 m4 d4)) rfl aQ.box.range ?_)|((with_reducible refine aO 27 (.tmp 4) (.tmp 37) ?_);refine au aG rfl (.tmp 4) (.tmp 37) rfl (w.heap.size+1+ 1) ⟨u1,u2,u3,⟨b1,m1,d1⟩,⟨b2,m2,d2⟩,⟨b3,m3,d3⟩,⟨b4,m4,d4⟩⟩ _ rfl rfl bT.out rfl ?_;intro wy hx hw;have Ub:=h_ (bq.wrote bT.out (bB _) hw);have T7:=h_ hx;have ML:=h_ (bM.wrote hw o_);have TI:=h_ (aF.trans (hw.below _ o_));clear hx hw)|((with_reducible refine aO 40 (.tmp 5) (.tmp 38) ?_);refine au bA rfl (.tmp 5) (.tmp 38) rfl (w.heap.size+1+ 1+1) (bS.err 2) _ rfl rfl ML.out rfl ?_;intro wz hx hw;have Qh:=h_ (Ub.wrote ML.out (bj _) hw);have Qg:=h_ (T7.wrote hw o_);have VR:=h_ hx;have VS:=h_ (TI.trans (hw.below _ o_));clear hx hw));exact Y2
def Cy(w:World)(B g:Nat)(r0:Raw)(s:St)(u:FrameMode)(e:Ending)(u':FrameMode)(w':World):Prop:= u'=u∧ rS w B g r0 s e w'
theorem oM(B g:Nat)(r0:Raw)(s:St)(u:FrameMode)(w:World)(h:Calls Tryz.prog 56 #[.pointer (some ⟨g,0,none⟩)] w (rS w B g r0 s)):CallsD Tryz.prog 164 #[.pointer (some ⟨g,0,none⟩)] u w (Cy w B g r0 s u):=by
 go_enter_d Tryz.func164,Tryz.ntmps164;go_wp2_with(go_at_call 56;((with_reducible refine h.mono ?_);rintro e w' ⟨rfl,hh⟩));go_end0
 first|exact ⟨rfl,rfl,hh⟩|exact ⟨rfl,hh⟩|exact hh
theorem mQ{w:World}{B g:Nat}{r0:Raw}{s:St}{fn:Func}{tmps:Array Value}{cM:FuncId}{fv:Fn}{cap:Array Value}{R:Ending→ World→Prop}(hd:CallsD Tryz.prog cM #[.pointer (some ⟨g,0,none⟩)] .returning w (Cy w B g r0 s .returning))(hi:(invoke (.fn fv cap) #[]).run Tryz.prog w= .ok (.enter cM #[.pointer (some ⟨g,0,none⟩)]) w)(hr:∀w' r,aU w' g (Raw.cells r)→aX w' B r (bG s)→dF g w w'→(r.cG=r0.cG∧ r.eY=r0.eY∧ r.ft=r0.ft∧ cg w.heap.size r0.cD.a r.cD.a)→∃v,(results fn tmps).run Tryz.prog w'= .ok v w'∧R (.returned v) w'):
 Leaves Tryz.prog fn tmps R [{target:= .fn fv cap,args:= #[]}] .returning w:=by
 refine leaves_cons (f:=cM) (args:= #[.pointer (some ⟨g,0,none⟩)]) (by simp) hi ?_;refine hd.mono ?_;rintro e u' w9 ⟨rfl,rfl,r9,eQ,yi,_,ho9,OA⟩;exact hr w9 r9 eQ yi ho9 OA
def VQ(r:Raw):Prop:= Ap r.cD.a r.ft.a∧Ap r.cG.a r.ft.a∧Ap r.eY.a r.ft.a
theorem DD{E:Nat}{a a' b:Option Addr}(h:cg E a a')(ha:Ap a b)(hb:∀x o q,b=some ⟨x,o,q⟩→x< E):Ap a' b:=fun x o q x' o' q' h1 h2=>by
 rcases h x o q h1 with h3|⟨o2,q2,h3⟩
 ·have:=hb x' o' q' h2;intro e;have h4:E≤ x:=h3;omega
 ·exact ha x o2 q2 x' o' q' h3 h2
theorem oH{w9:World}{B:Nat}{r r9:Raw}{s:St}(h:aX w9 B r s)(hB:0< B)(td:Ap r.cD.a r.ft.a)(ld:Ap r.cG.a r.ft.a)(sd:Ap r.eY.a r.ft.a)(h9:r9.cG= r.cG∧r9.eY= r.eY∧r9.ft= r.ft∧cg w9.heap.size r.cD.a r9.cD.a):VQ r9:=by
 obtain⟨e1,e2,e3,hn⟩:=h9;unfold VQ;rw[e1,e2,e3];exact⟨DD hn td (h.ft.lt hB),ld,sd⟩
theorem G3{P:Program}{w:World}{ops:Array Oper}{rest:List Oper}{o:Oper}{ac:Act}{Q:Exit→ Act→World→ Prop}{t e:TypeId}{size bytes:Nat}(el:sG P t e size bytes)(hgd:o.guard= none)(s x:Operand)(ho:o.op= .call {callee:= .builtin .append,args:= #[s,x],argTypes:= #[t,t]})(B:Nat)(a:Option Addr)(n c:Nat)(xs:List Value)(hs:ac.eval s= .slice a n c)(di:Can w B e size a n c xs)(ad:Option Addr)(m k:Nat)(news:List Value)(hx:ac.eval x= .slice ad m k)(hl:news.length= m*size)(hr:Row w ad news)(h1:∀u∈ news,u.oneCell'=true)(hbytes:(n+m)*bytes≤ 140737488355328)(hB:B≤ w.heap.size)(h:∀a' c' w',Can w' B e size a' (n+m) c' (xs++news)→w.grownBy w' (Value.slice a n c).ownBlock→Below B w w'→(0<m→ w'.ownsRow B e size (.slice a' (n+m) c') (n+m) (xs++news))∧(m=0→ a'=a∧ c'=c)→(0<m→ cg w.heap.size a a')→wpList P ops Q rest (ac.put o.dst (.slice a' (n+m) c')) w'):wpList P ops Q (o::rest) ac w:=by
 obtain⟨a',c',w',hrun,h2,h3,h4,h5⟩:=vw el o.type B a n c xs di ad m k news hl hr h1 hbytes hB;refine wpList_plain hgd fun K hK=> ?_
 unfold Oper.wp execOp;simp only[ho,resolve,invoke,builtin,Sem.run_bind,Sem.run_pure,Result.andThen_ok,List.map_toArray,List.map_cons,List.map_nil,hs,hx,hrun];exact hK _ _ (h a' c' w' h2 h3 h4 h5 (fun hm=>zH el o.type B a n c xs di ad m k news hl hr h1 hbytes hm hrun))
def DA(w:World)(r:St× bS)(e:Ending)(w':World):Prop:= ∃q B,e= .returned (.tuple #[Raw.agg q,r.2.agg])∧aX w' B q r.1∧(cp r.1=true→ (w.heap.size≤B∧ 0<B)∧VQ q)∧Below w.heap.size w w'
theorem ln{w w':World}{tmps:Array Value}{res:St× bS}{r9:Raw}{a:bS}(h12:tmps[12]? =some (.pointer (some ⟨w.heap.size+1,0,none⟩)))(JY:tmps[13]? =some (.pointer (some ⟨w.heap.size+1+ 1,0,none⟩)))(hx:aU w' (w.heap.size+1) (Raw.cells r9))(ha:aU w' (w.heap.size+1+ 1) (bS.cells a)){B:Nat}(hs:aX w' B r9 res.1)(hB:cp res.1=true→ (w.heap.size≤B∧ 0<B)∧VQ r9)(he:res.2= a)(hb:Below w.heap.size w w'):
 ∃v,(results Tryz.f118 tmps).run Tryz.prog w'= .ok v w'∧DA w res (.returned v) w':=by
 obtain⟨k0,k1,k2,k3,k4,k5,k6⟩:=bP hx.range;obtain⟨j0,j1,j2,j3,j4⟩:=oK ha.range;have g12:tmps[12]! = .pointer (some ⟨w.heap.size+1,0,none⟩):=by rw[getElem!_def,h12]
 have g13:tmps[13]! = .pointer (some ⟨w.heap.size+1+ 1,0,none⟩):=by rw[getElem!_def,JY]
 refine⟨.tuple #[r9.agg,a.agg],?_,r9,B,by rw[he],hs,hB,hb⟩;simp[results,Tryz.results118,go_sem,g12,g13,h12,JY,k0,k1,k2,k3,k4,k5,k6,j0,j1,j2,j3,j4]
section
variable {P:Program} {e:TypeId} {α:Type} {L:iW P e α}
theorem bF.where{w w':World}{a:Option Addr}{xs:List α}(h:bF L w a xs)(hk:∀b o q,a=some ⟨b,o,q⟩→b< w.heap.size→w'.heap[b]? =w.heap[b]?):bF L w' a xs:=by
 by_cases h0:xs.flatMap L.cells=[]
 ·exact .inl h0
 ·rcases h with h|⟨b,o,rfl,hc⟩
  ·exact absurd h h0
  ·have hlt:=Row.lt (.inr ⟨b,o,rfl,hc⟩) h0;exact .inr ⟨b,o,rfl,fun i hi=>by rw[World.cell?_of_block (w:=w) (hk b o _ rfl hlt)];exact hc i hi⟩
theorem bF.grown{w w':World}{a:Option Addr}{xs:List α}{blk:Option Nat}(h:bF L w a xs)(hg:w.grownBy w' blk)(hne:∀b o q,a=some ⟨b,o,q⟩→some b≠blk):bF L w' a xs:=h.where fun b o q ha hlt=>hg.block b hlt (hne b o q ha)
theorem cK.grown{w w':World}{B:Nat}{s:sH}{xs:List α}{blk:Option Nat}(h:cK L w B s xs)(hg:w.grownBy w' blk)(hne:∀b o q,s.a=some ⟨b,o,q⟩→some b≠blk):cK L w' B s xs:=⟨h.len,h.le,h.nil,h.eZ,h.row.grown hg hne⟩
end
theorem gI.grown{w w':World}{B:Nat}{s:sH}{xs:List bR}{blk:Option Nat}(h:gI w B s xs)(hg:w.grownBy w' blk)(hne:∀b o q,s.a=some ⟨b,o,q⟩→some b≠blk):gI w' B s xs:=h.same (h.tocK.grown hg hne) hg.size fun g _ ha _ h1=>hg.block g h1 (hne g 0 none ha)
theorem vX{a b:Option Addr}{n c:Nat}(h:Ap a b):∀x o q,b=some ⟨x,o,q⟩→some x≠(Value.slice a n c).ownBlock:=fun x o q hb e=>by
 cases a with
 |none=> simp[Value.ownBlock]at e
 |some ad=>
  obtain⟨y,o',q'⟩:=ad;simp[Value.ownBlock]at e;exact h y o' q' x o q rfl hb e.symm
theorem yR{B E:Nat}{a b:Option Addr}(h:cg E a b)(ha:cg B none a)(hB:B≤ E):cg B none b:=fun x o q hb=>by
 rcases h x o q hb with h1|⟨o',q',h1⟩
 ·exact .inl o_
 ·exact ha x o' q' h1
theorem Ps{w8 w9:World}{B:Nat}{r:Raw}{s:St}{xa:Option Addr}{ya:Nat}{ts:List aj}(h8:mN w8 B r s)(hB:B≤ w8.heap.size)(hle:ts.length≤ ya)(hnil:xa= none→ya= 0)(cE:cg w8.heap.size r.cD.a xa)(hrow:dK w9 xa ts):cK aT w9 B ⟨xa,ts.length,ya⟩ ts:=
 ⟨rfl,hle,hnil,yR cE h8.is.cD.eZ hB,hrow⟩
theorem N1{w8 w9 fg fx vG:World}{B g:Nat}{t4 s4 n4 nx:Int}{x1 x2 x3 x4 xa xb:Option Addr}{m1 y1 m2 y2 m3 y3 m4 y4 ya yb:Nat}{s:St}{ts:List aj}{l:aV}{o:Obj}(h8:mN w8 B ⟨t4,s4,n4,⟨x1,m1,y1⟩,⟨x2,m2,y2⟩,⟨x3,m3,y3⟩,⟨x4,m4,y4⟩⟩ s)(hB:B≤ w8.heap.size)(sK:Below w8.heap.size w8 w9)(hle:ts.length≤ ya)(hnil:xa= none→ya= 0)(cE:cg w8.heap.size x1 xa)(hrow:dK w9 xa ts)(kv:dt g w9 fg)(hg:g< B)(tV:(fg.alloc o).grownBy fx (Value.slice x2 m2 y2).ownBlock)(hown:fx.ownsRow B 59 7 (.slice xb (m2+1) yb) (m2+1) (s.ai.flatMap aJ.cells++aJ.cells l))(hm:cx B fx.heap.size fx vG):
 aX vG B ⟨t4,s4,nx,⟨xa,ts.length,ya⟩,⟨xb,m2+1,yb⟩,⟨x3,m3,y3⟩,⟨x4,m4,y4⟩⟩ {s with ax:=ts,ai:=s.ai++ [l],next:=nx}:=by
 have m10:cx B w8.heap.size w8 fg:=(cx.below sK n_).wrote kv (.inl hg);have h10:=h8.eH m10 n_ n_;have t9:=Ps h8 hB hle hnil cE hrow;have t10:cK aT fg B ⟨xa,ts.length,ya⟩ ts:=t9.eH ((cx.refl B w9.heap.size w9).wrote kv (.inl hg)) n_ n_;have xB:Below fg.heap.size fg (fg.alloc o):=b_.alloc n_ o;have pz:∀b q o,xa=some ⟨b,q,o⟩→some b≠(Value.slice x2 m2 y2).ownBlock:=fun b q o ha=>by
  rcases cE b q o ha with h1|⟨q',o',h1⟩
  ·intro e;cases x2 with
   |none=> simp[Value.ownBlock]at e
   |some ad=>
    obtain⟨y,u,v⟩:=ad;simp[Value.ownBlock]at e;have h2:y< w8.heap.size:=h8.lt y u v rfl;have h3:w8.heap.size≤ b:=h1;omega
  ·exact vX h8.tl.symm b q' o' h1
 have t11:=(t10.below xB).grown tV pz;have Vs:=(h10.is.eY.below xB).grown tV (vX h8.ls);have d11:=(h10.is.ft.below xB).grown tV (vX h8.ld);have iX:s.ai.length= m2:=h8.is.cG.len;obtain⟨a',c',hv,hc1,hc2,hc3⟩:=eN hown;simp only[Value.slice.injEq]at hv;obtain⟨rfl,_,rfl⟩:=hv
 have Vg:cK aJ fx B ⟨xb,m2+1,yb⟩ (s.ai++[l]):=⟨by simp[iX],hc1,hc3,cg.own hown n_,by
  have:=jO hown;show Row fx xb ((s.ai++[l]).flatMap aJ.cells)
  rw[List.flatMap_append];simpa using this⟩
 exact⟨h8.is.term,h8.is.ag,rfl,t11.eH hm n_ n_,Vg.eH hm n_ n_,Vs.eH hm n_ n_,d11.eH hm n_ n_⟩
theorem Vn{w8 w9 vG:World}{B:Nat}{t4 s4 n4:Int}{x1 xa:Option Addr}{m1 y1 ya:Nat}{l2 l3 l4:sH}{s:St}{ts:List aj}(h8:aX w8 B ⟨t4,s4,n4,⟨x1,m1,y1⟩,l2,l3,l4⟩ s)(hB:B≤ w8.heap.size)(sK:Below w8.heap.size w8 w9)(hle:ts.length≤ ya)(hnil:xa= none→ya= 0)(cE:cg w8.heap.size x1 xa)(hrow:dK w9 xa ts)(hm:cx B w9.heap.size w9 vG):aX vG B ⟨t4,s4,n4,⟨xa,ts.length,ya⟩,l2,l3,l4⟩ {s with ax:=ts}:=by
 have h9:=h8.below sK;have t9:cK aT w9 B ⟨xa,ts.length,ya⟩ ts:=⟨rfl,hle,hnil,yR cE h8.cD.eZ hB,hrow⟩;exact⟨h8.term,h8.ag,h8.next,t9.eH hm n_ n_,h9.cG.eH hm n_ n_,h9.eY.eH hm n_ n_,h9.ft.eH hm n_ n_⟩
theorem rV{w5 w6 vG:World}{B g6:Nat}{t4 s4 n4:Int}{x2:Option Addr}{m2 y2:Nat}{l1 l3 l4:sH}{s:St}{fl:List aV}(h5:mN w5 B ⟨t4,s4,n4,l1,⟨x2,m2,y2⟩,l3,l4⟩ s)(Z2:bF aJ w6 x2 fl)(hle:fl.length≤ m2)(Te:dF g6 w5 w6)(Wm:(∃o q,x2=some ⟨g6,o,q⟩)∨g6= w5.heap.size)(hm:cx B w6.heap.size w6 vG):
 aX vG B ⟨t4,s4,n4,l1,⟨x2,fl.length,y2⟩,l3,l4⟩ {s with ai:=fl}:=by
 have h2:m2≤ y2:=h5.is.cG.le;have l6:cK aJ w6 B ⟨x2,fl.length,y2⟩ fl:=⟨rfl,by show fl.length≤y2;omega,h5.is.cG.nil,h5.is.cG.eZ,Z2⟩;exact⟨h5.is.term,h5.is.ag,h5.is.next,(h5.is.cD.apart Te h5.tl.symm Wm).eH hm n_ n_,l6.eH hm n_ n_,(h5.is.eY.apart Te h5.ls Wm).eH hm n_ n_,(h5.is.ft.apart Te h5.ld Wm).eH hm n_ n_⟩
theorem yJ{P:Program}{e:TypeId}{α:Type}{L:iW P e α}{w:World}{g:Nat}{cs:List Value}(z:α)(h:aU w g cs)(hl:cs.length= L.size):aU (w.setCells g 0 (L.cells z)) g (L.cells z)∧dt g w (w.setCells g 0 (L.cells z)):=by
 have ht:w.there g 0 L.size:=by rw[←hl];exact h.there
 exact⟨⟨sx z ht,by rw[L.len];exact World.there_setCells ht _ _ _⟩,⟨fun _ hB=>Below.setCells hB _ _ b_,dW _ _ _ _,fun k hk=>dh g _ _ _ k hk⟩⟩
theorem Mn{w nJ vG:World}{g:Nat}{c1 c2:List Value}{F:World→ Prop}(RG:aU nJ (g+1) c1∧dt (g+1) w nJ)(O5:aU vG (g+1+ 1) c2∧dt (g+1+ 1) nJ vG)(hq:∀w',aU w' (g+1) c1→aU w' (g+1+ 1) c2→w'.heap.size= w.heap.size→(∀k,k≠g+ 1→k≠ g+1+ 1→w'.heap[k]? =w.heap[k]?)→(∀B,B≤g+ 1→Below B w w')→F w'):F vG.drew:=
 hq _ (RG.1.wrote O5.2 o_).drew O5.1.drew (O5.2.size.trans RG.2.size) (fun k e1 e2=>(O5.2.bY k e2).trans (RG.2.bY k e1)) (fun B hB=>((RG.2.below B hB).trans (O5.2.below B o_)).drew)
end Go.Proofs.YtfdmhpohfjbpfaaGreat
