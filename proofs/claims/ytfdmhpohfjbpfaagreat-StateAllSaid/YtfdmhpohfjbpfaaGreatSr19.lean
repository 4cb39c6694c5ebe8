import Derived.Test.YtfdmhpohfjbpfaaGreatSrRefGrantOk
set_option linter.unusedVariables false
set_option linter.unusedSimpArgs false
namespace Go.Proofs.YtfdmhpohfjbpfaaGreat
open Go.ChangeShapes Go.WideShapes Go.ChangeAt Go.RowKit
set_option maxRecDepth 100000
set_option maxHeartbeats 16000000
theorem Et(s:St)(r:Raw)(B:Nat)(sh ep nu te sz:Int)(w:World)(h:aX w B r s)(hl1':s.ax.length≤ 800)(hl2:s.ai.length≤ 900)(cS:s.cd.length≤ 900)(hl4:s.aP.length≤ 900)(hok:cp s=true):
 Calls Tryz.prog 88 #[r.agg,.int .i64 sh,.int .i64 ep,.int .i64 nu,.int .i64 te,.int .i64 sz] w (iC w.heap.size w (cV s sh ep nu te sz)):=by
 have hno:¬(cp s=false):=by rw[hok];simp
 by_cases hb:jo sh ep nu sz
 ·rw[show cV s sh ep nu te sz=(bG s,bS.err 2) by unfold cV;rw[if_neg hno,if_pos hb]];unfold jo at hb;by_cases a1:sh< 1
  ·exact Ch s r B sh ep nu te sz w h hl1' hl2 cS hl4 hok a1
  by_cases a2:8< sh
  ·exact Ci s r B sh ep nu te sz w h hl1' hl2 cS hl4 hok o_ a2
  by_cases a3:ep< 1
  ·exact Cj s r B sh ep nu te sz w h hl1' hl2 cS hl4 hok o_ o_ a3
  by_cases a4:nu< 1
  ·exact Ck s r B sh ep nu te sz w h hl1' hl2 cS hl4 hok o_ o_ o_ a4
  by_cases a5:sz< 1
  ·exact Cl s r B sh ep nu te sz w h hl1' hl2 cS hl4 hok o_ o_ o_ o_ a5
  exact Cm s r B sh ep nu te sz w h hl1' hl2 cS hl4 hok o_ o_ o_ o_ o_ o_
 ·have hres:cV s sh ep nu te sz=if (bf s.ax te).2=false∨ (bf s.ax te).1.gone=true then(bG s,bS.err 161)
   else if 64≤s.ai.length∨ 1099511627776≤s.next then(bG s,bS.err 100)
   else if(gi (bf s.ax te).1.bucket sz).2≠0 then(bG s,bS.err (gi (bf s.ax te).1.bucket sz).2)
   else(bG (jQ s {(bf s.ax te).1 with bucket:=(gi (bf s.ax te).1.bucket sz).1} ⟨s.next,te,sh,ep,nu,sz,0⟩),⟨0,(bf s.ax te).1.aK,(bf s.ax te).1.aq,s.next,sz⟩):=by
   unfold cV;rw[if_neg hno,if_neg hb];rfl
  unfold jo at hb;have g1:1≤ sh:=o_;have g2:sh≤ 8:=o_;have g3:1≤ ep:=o_;have g4:1≤ nu:=o_;have g5:1≤ sz:=o_;have g6:sz≤ 1000000:=o_;rw[hres];clear hres hb;obtain⟨h1,h2,h3,h4⟩:=bI hok;have hne:(bf s.ax te).2=true→ s.ax≠[]:=fun hf hn=>by
   rw[hn]at hf;simp[bf]at hf
  have hrg:=fun hf=>ry (id:=te) h1 hf
  rcases fk:bf s.ax te with⟨⟨cM,bH,aN,aL,fK⟩,ok⟩;rw[fk]at hne hrg;simp only at hne hrg ⊢;cases ok with
  |false=>
   rw[if_pos (.inl rfl)];exact Ct s r B sh ep nu te sz w h hl1' hl2 cS hl4 hok fK cM bH aN aL fk g1 g2 g3 g4 g5 g6
  |true=>
   cases fK with
   |true=>
    rw[if_pos (.inr rfl)];exact Co s r B sh ep nu te sz w h hl1' hl2 cS hl4 hok cM bH aN aL fk g1 g2 g3 g4 g5 g6
   |false=>
    rw[if_neg (by simp)];by_cases g7:64≤ s.ai.length
    ·rw[if_pos (.inl g7)];exact Cn s r B sh ep nu te sz w h hl1' hl2 cS hl4 hok cM bH aN aL fk g1 g2 g3 g4 g5 g6 g7
    by_cases g8:1099511627776≤ s.next
    ·rw[if_pos (.inr g8)];exact Er s r B sh ep nu te sz w h hl1' hl2 cS hl4 hok cM bH aN aL fk g1 g2 g3 g4 g5 g6 o_ g8
    rw[if_neg o_];rcases uf aL sz with ht|ht
    ·rw[ht,if_pos d_];exact Es s r B sh ep nu te sz w h hl1' hl2 cS hl4 hok cM bH aN aL fk g1 g2 g3 g4 g5 g6 o_ o_ ht
    ·rw[ht,if_neg (by simp)];have hfit:Fits (s.ai++[⟨s.next,te,sh,ep,nu,sz,0⟩]):=by
      have hrr:=hrg rfl;intro x hx;rcases List.mem_append.1 hx with hx|hx
      ·exact bU h1 h2 x hx
      ·rw[List.mem_singleton.1 hx];simp only;omega
     exact Cq s r B sh ep nu te sz w h hl1' hl2 cS hl4 hok cM bH aN aL fk g1 g2 g3 g4 g5 g6 o_ o_ ht h3.2.1 (hne rfl) hfit
theorem Sb {P:Prop}(h:P:=by
 go_wp2_with(first|((with_reducible refine bC 66 (.tmp 34) ?_);refine aa ay rfl (.tmp 34) rfl b (o+k* 8) rfl ⟨x0,x1,x2,⟨xe,xr,xb,xl,xz⟩⟩ (.agg (GY x0 x1 x2 xe xr xb xl xz)) rfl gB.out ?_)|((with_reducible refine aO 66 (.tmp 4) (.tmp 35) ?_);refine aI ay rfl (.tmp 4) (.tmp 35) rfl ⟨x0,x1,x2,⟨xe,xr,xb,xl,xz⟩⟩ rfl rfl rfl ?_;intro w7 eO _ cL kP;have iZ:=h_ cL;obtain⟨p0,p1,p2,_⟩:=dw eO;simp only[Nat.zero_add]at p0 p1 p2;have Vd:=(nR.next (by simp) cL).cell (j:=6) rfl;simp only at Vd;clear eO cL));go_quiet (fail);go_wp2;go_returns
 exact⟨bZ (HE.trans HO.out).symm,below_drewN (yF.trans (iZ.mono yF.size)) _⟩):P:=h
theorem VF {P:Prop}(h:P:=by
 go_enter Tryz.func14,Tryz.ntmps14;go_wp2_with(first|((with_reducible refine bC 27 (.tmp 1) ?_);refine aa aG rfl (.tmp 1) rfl w.heap.size 0 rfl ⟨term,ag,next,⟨a1,n1,c1⟩,⟨a2,n2,c2⟩,⟨a3,n3,c3⟩,⟨a4,n4,c4⟩⟩ (.agg (aw term ag next a1 n1 c1 a2 n2 c2 a3 n3 c3 a4 n4 c4)) rfl E4.range ?_)|(go_at_call 26;((with_reducible refine(fZ.out _ lH.out).mono ?_);rintro e w1 ⟨rfl,hb1⟩;have iJ:=h_ (lH.trans (hb1.mono lH.size));have iO:=h_ (E4.next (by simp) hb1);have q1:=iJ.size;clear hb1;obtain⟨k0,k1,k2,k3,k4,k5,k6⟩:=bP iO.range;simp only at k0 k1 k2 k3 k4 k5 k6))|(go_at_call 27;((with_reducible refine(Na.out _ iJ.out).mono ?_);rintro e w2 ⟨rfl,hb2⟩;have nO:=h_ (iJ.trans (hb2.mono iJ.size));have Bk:=h_ (iO.next (by simp) hb2);have q2:=nO.size;clear k0 k1 k2 k3 k4 k5 k6 hb2;obtain⟨k0,k1,k2,k3,k4,k5,k6⟩:=bP Bk.range;simp only at k0 k1 k2 k3 k4 k5 k6)));go_returns
 exact⟨bZ HR.symm,nO.out⟩):P:=h
theorem vg(s:St)(r:Raw)(B:Nat)(w:World)(h:aX w B r s)(cC:s.ax.length≤ 900)(hl2:s.ai.length≤ 900)(cS:s.cd.length≤ 900)(hl4:s.aP.length≤ 900):
 Calls Tryz.prog 14 #[r.agg] w fun e w'=>e= .returned (.bool (bX s))∧Below w.heap.size w w':=by
 have HE:=h_ (A7 s);have HB:=h_ (fun k (h:k< s.aP.length)=>CN h);have HT:Hid (eV (s.aP.take s.aP.length)=true→ eV s.aP=true):=fun h=>by rw[List.take_length]at h;exact h
 have H0:Hid (eV (s.aP.take 0)=true):=rfl;have HN:=h_ (fun k (h:k< s.aP.length)=>zL h);have HL:=h_ (fun k (h:k< s.aP.length)=>jt (key:=bR.ak) (a:=0) h);have TM:Hid (∀k,eV (s.aP.take k)=true→ 0≤cU bR.ak 0 (s.aP.take k)):=fun k h=>pT h
 have fZ:=h_ (fun w' (hb:Below w.heap.size w w')=>cY s r B w' (h.below hb) cC hl2);have Na:=h_ (fun w' (hb:Below w.heap.size w w')=>mD s.cd r.eY.a r.eY.n r.eY.c w' h.eY.len (bD (by have:=h.eY.len;omega)) (h.eY.row.below hb));have HD:=h_ h.ft.tocK;have Cz:=h_ hl4;generalize Qo:cp s=so at fZ HE;generalize I1:dg s.cd=se at Na HE;generalize JZ:eV s.aP=dk at HB HT HE;generalize bX s=res at HE ⊢;obtain⟨term,ag,next,⟨a1,n1,c1⟩,⟨a2,n2,c2⟩,⟨a3,n3,c3⟩,⟨a4,n4,c4⟩⟩:=r;have hq1:=h.term;have hq2:=h.ag;simp only at hq1 hq2;rw[←hq1,←hq2]at HE;have lH:Hid (Below w.heap.size w (w.alloc (.cells (aw term ag next a1 n1 c1 a2 n2 c2 a3 n3 c3 a4 n4 c4) 27))):=ah b_;have E4:Hid (aU (w.alloc (.cells (aw term ag next a1 n1 c1 a2 n2 c2 a3 n3 c3 a4 n4 c4) 27)) w.heap.size (Raw.cells ⟨term,ag,next,⟨a1,n1,c1⟩,⟨a2,n2,c2⟩,⟨a3,n3,c3⟩,⟨a4,n4,c4⟩⟩)):=aU.aR (w:=w) b_;clear h cC hl2 cS hl4 Qo I1 JZ hq1 hq2;cases so with
 |false=>
  have HR:Hid (res=false):=by show _=_;rw[HE.out];simp
  go_enter Tryz.func14,Tryz.ntmps14;go_wp2_with(first|((with_reducible refine bC 27 (.tmp 1) ?_);refine aa aG rfl (.tmp 1) rfl w.heap.size 0 rfl ⟨term,ag,next,⟨a1,n1,c1⟩,⟨a2,n2,c2⟩,⟨a3,n3,c3⟩,⟨a4,n4,c4⟩⟩ (.agg (aw term ag next a1 n1 c1 a2 n2 c2 a3 n3 c3 a4 n4 c4)) rfl E4.range ?_)|(go_at_call 26;((with_reducible refine(fZ.out _ lH.out).mono ?_);rintro e w1 ⟨rfl,hb1⟩;have iJ:=h_ (lH.trans (hb1.mono lH.size));have iO:=h_ (E4.next (by simp) hb1);have q1:=iJ.size;clear hb1;obtain⟨k0,k1,k2,k3,k4,k5,k6⟩:=bP iO.range;simp only at k0 k1 k2 k3 k4 k5 k6))|(go_at_call 27;((with_reducible refine(Na.out _ iJ.out).mono ?_);rintro e w2 ⟨rfl,hb2⟩;have nO:=h_ (iJ.trans (hb2.mono iJ.size));have Bk:=h_ (iO.next (by simp) hb2);have q2:=nO.size;clear k0 k1 k2 k3 k4 k5 k6 hb2;obtain⟨k0,k1,k2,k3,k4,k5,k6⟩:=bP Bk.range;simp only at k0 k1 k2 k3 k4 k5 k6)));go_returns;exact⟨bZ HR.symm,iJ.out⟩
 |true=>
 cases se with
 |false=>
  have HR:Hid (res=false):=by show _=_;rw[HE.out];simp
  exact VF
 |true=>
 by_cases g1:term< 0
 ·have HR:Hid (res=false):=by show _=_;rw[HE.out,decide_eq_false o_];rfl
  have d1:decide (term<0)=true:= decide_eq_true g1;exact VF
 have d1:decide (term<0)=false:= decide_eq_false g1;by_cases g2:ag< 0
 ·have HR:Hid (res=false):=by show _=_;rw[HE.out,decide_eq_false o_];rfl
  have d2:decide (ag<0)=true:= decide_eq_true g2;exact VF
 have d2:decide (ag<0)=false:= decide_eq_false g2;replace HE:Hid (res=dk):=by show _=_;rw[HE.out,decide_eq_true o_];rfl
 clear g1 g2;go_enter Tryz.func14,Tryz.ntmps14;go_wp2_with(first|((with_reducible refine bC 27 (.tmp 1) ?_);refine aa aG rfl (.tmp 1) rfl w.heap.size 0 rfl ⟨term,ag,next,⟨a1,n1,c1⟩,⟨a2,n2,c2⟩,⟨a3,n3,c3⟩,⟨a4,n4,c4⟩⟩ (.agg (aw term ag next a1 n1 c1 a2 n2 c2 a3 n3 c3 a4 n4 c4)) rfl E4.range ?_)|(go_at_call 26;((with_reducible refine(fZ.out _ lH.out).mono ?_);rintro e w1 ⟨rfl,hb1⟩;have iJ:=h_ (lH.trans (hb1.mono lH.size));have iO:=h_ (E4.next (by simp) hb1);have q1:=iJ.size;clear hb1;obtain⟨k0,k1,k2,k3,k4,k5,k6⟩:=bP iO.range;simp only at k0 k1 k2 k3 k4 k5 k6))|(go_at_call 27;((with_reducible refine(Na.out _ iJ.out).mono ?_);rintro e w2 ⟨rfl,hb2⟩;have nO:=h_ (iJ.trans (hb2.mono iJ.size));have Bk:=h_ (iO.next (by simp) hb2);have q2:=nO.size;clear k0 k1 k2 k3 k4 k5 k6 hb2;obtain⟨k0,k1,k2,k3,k4,k5,k6⟩:=bP Bk.range;simp only at k0 k1 k2 k3 k4 k5 k6)));obtain rfl:s.aP.length= n4:=HD.len;have Z0:=Cz.out;generalize(Raw.agg ⟨term,ag,next,⟨a1,n1,c1⟩,⟨a2,n2,c2⟩,⟨a3,n3,c3⟩,⟨a4,s.aP.length,c4⟩⟩)=v0;generalize(Value.agg (aw term ag next a1 n1 c1 a2 n2 c2 a3 n3 c3 a4 s.aP.length c4))=v21;go_loopw [3] (fun i wr=>∃k: Nat,k≤s.aP.length∧ i= .int .i64 k∧Hid (eV (s.aP.take k)=true)∧Hid (Below w2.heap.size w2 wr)) (fun i _=>s.aP.length- (intOf i).toNat)
 case atStart=>exact ⟨0,by omega,rfl,H0,Below.refl _ _⟩
 case round=>
  obtain⟨k,hk,rfl,hok,hbr⟩:=hrel;have kU:Below w.heap.size w wr:=nO.trans (hbr.out.mono nO.size);have yF:=h_ kU;have nR:=h_ (Bk.next (by simp) hbr.out);clear kU k0 k1 k2 k3 k4 k5 k6;have k6:=nR.cell (j:=6) rfl;simp only at k6;have qr:=yF.size;have hgr:=nR.lt (by simp);by_cases hlt:k< s.aP.length
  ·obtain⟨b,o,rfl,hcs⟩:=bF.range HD.row hlt;have ez:=h_ hcs;have gB:=h_ (hcs _ yF.out);have xW:=h_ (HB k hlt);have pn:=h_ (HN k hlt hok.out);have hge:=TM.out k hok.out;clear hcs;generalize hxk:s.aP[k]=x at gB xW pn;obtain⟨x0,x1,x2,⟨xe,xr,xb,xl,xz⟩⟩:=x;clear hxk;by_cases g1:x0< 1
   ·have HO:=h_ (xW (by intro hh;have:=hh.1;simp only at this;omega));have e1:decide (x0<1)=true:= decide_eq_true g1;exact Sb
   have e1:decide (x0<1)=false:= decide_eq_false g1;by_cases g2:8< x0
   ·have HO:=h_ (xW (by intro hh;have:=hh.2.1;simp only at this;omega));have e2:decide (8<x0)=true:= decide_eq_true g2;exact Sb
   have e2:decide (8<x0)=false:= decide_eq_false g2;by_cases g3:x1< 1
   ·have HO:=h_ (xW (by intro hh;have:=hh.2.2.1;simp only at this;omega));have e3:decide (x1<1)=true:= decide_eq_true g3;exact Sb
   have e3:decide (x1<1)=false:= decide_eq_false g3;by_cases g4:x2< 1
   ·have HO:=h_ (xW (by intro hh;have:=hh.2.2.2;simp only at this;omega));have e4:decide (x2<1)=true:= decide_eq_true g4;exact Sb
   have e4:decide (x2<1)=false:= decide_eq_false g4;cases k with
   |zero=>
    have EP:cU bR.ak 0 (s.aP.take 0)=0:= rfl;have zm:=h_ (pn (by rw[EP];simp only;omega) (by simp only;omega) (by simp only;omega) (by simp only;omega));have e5:decide ((0:Int)<0)=false:= rfl;have T5:=gB.out;rw[Nat.zero_mul,Nat.add_zero]at T5;replace gB:=h_ T5;clear T5;clear EP hge g1 g2 g3 g4;go_wp2_with(first|((with_reducible refine bC 66 (.tmp 34) ?_);refine aa ay rfl (.tmp 34) rfl b o rfl ⟨x0,x1,x2,⟨xe,xr,xb,xl,xz⟩⟩ (.agg (GY x0 x1 x2 xe xr xb xl xz)) rfl gB.out ?_)|((with_reducible refine aO 66 (.tmp 4) (.tmp 35) ?_);refine aI ay rfl (.tmp 4) (.tmp 35) rfl ⟨x0,x1,x2,⟨xe,xr,xb,xl,xz⟩⟩ rfl rfl rfl ?_;intro w7 eO _ cL kP;have iZ:=h_ cL;obtain⟨p0,p1,p2,_⟩:=dw eO;simp only[Nat.zero_add]at p0 p1 p2;have Vd:=(nR.next (by simp) cL).cell (j:=6) rfl;simp only at Vd;clear eO cL));go_quiet (fail);go_wp2;go_roundw
    case rel=>exact ⟨0+1,by omega,by go_num,zm.out,below_drewN (hbr.out.trans (iZ.mono hbr.out.size)) _⟩
    case measure=>simp [intOf];omega
   |succ j=>
    have hj:j< s.aP.length:=o_;have HLJ:=h_ (HL j hj);obtain⟨b2,o2,hbo,Oc⟩:=bF.range HD.row hj;simp only[Option.some.injEq,Addr.mk.injEq,and_true]at hbo;obtain⟨rfl,rfl⟩:=hbo;have HCJ:=h_ Oc;clear Oc;rw[HLJ.out]at pn xW hge;generalize hyj:s.aP[j]=y at HCJ pn xW hge;obtain⟨y0,y1,y2,ya⟩:=y;clear hyj HLJ;have e5:decide ((0:Int)<(j:Int)+1)=true:= decide_eq_true o_;have Rh:IntKind.i64.wrap ((j:Int)+1- 1)=(j:Int):=by rw[IntKind.wrap_i64];omega
    by_cases g5:x0≤ y0
    ·have HO:=h_ (xW (by intro hh;have:=hh.1;simp only at this;omega));have e6:decide (x0≤y0)=true:= decide_eq_true g5;clear g1 g2 g3 g4 g5 hge;go_wp2_with(first|((with_reducible refine bC 66 (.tmp 34) ?_);refine aa ay rfl (.tmp 34) rfl b (o+(j+1)*8) rfl ⟨x0,x1,x2,⟨xe,xr,xb,xl,xz⟩⟩ (.agg (GY x0 x1 x2 xe xr xb xl xz)) rfl gB.out ?_)|((with_reducible refine aO 66 (.tmp 4) (.tmp 35) ?_);refine aI ay rfl (.tmp 4) (.tmp 35) rfl ⟨x0,x1,x2,⟨xe,xr,xb,xl,xz⟩⟩ rfl rfl rfl ?_;intro w7 eO _ cL kP;have iZ:=h_ cL;obtain⟨p0,p1,p2,_⟩:=dw eO;simp only[Nat.zero_add]at p0 p1 p2;have Vd:=(nR.next (by simp) cL).cell (j:=6) rfl;simp only at Vd;have y0c:w7.cell? ⟨b,o+j* 8,none⟩=some (.int .i64 y0):=(dw (HCJ _ (yF.trans (cL.mono yF.size)))).1;clear eO cL));go_quiet (fail);go_wp2;go_returns;exact⟨bZ (HE.trans HO.out).symm,below_drewN (yF.trans (iZ.mono yF.size)) _⟩
    have e6:decide (x0≤y0)=false:= decide_eq_false g5;have zm:=h_ (pn (by simp only;omega) (by simp only;omega) (by simp only;omega) (by simp only;omega));clear g1 g2 g3 g4 g5 hge;go_wp2_with(first|((with_reducible refine bC 66 (.tmp 34) ?_);refine aa ay rfl (.tmp 34) rfl b (o+(j+1)*8) rfl ⟨x0,x1,x2,⟨xe,xr,xb,xl,xz⟩⟩ (.agg (GY x0 x1 x2 xe xr xb xl xz)) rfl gB.out ?_)|((with_reducible refine aO 66 (.tmp 4) (.tmp 35) ?_);refine aI ay rfl (.tmp 4) (.tmp 35) rfl ⟨x0,x1,x2,⟨xe,xr,xb,xl,xz⟩⟩ rfl rfl rfl ?_;intro w7 eO _ cL kP;have iZ:=h_ cL;obtain⟨p0,p1,p2,_⟩:=dw eO;simp only[Nat.zero_add]at p0 p1 p2;have Vd:=(nR.next (by simp) cL).cell (j:=6) rfl;simp only at Vd;have y0c:w7.cell? ⟨b,o+j* 8,none⟩=some (.int .i64 y0):=(dw (HCJ _ (yF.trans (cL.mono yF.size)))).1;clear eO cL));go_quiet (fail);go_wp2;go_roundw
    case rel=>exact ⟨j+1+ 1,by omega,by go_num,zm.out,below_drewN (hbr.out.trans (iZ.mono hbr.out.size)) _⟩
    case measure=>simp [intOf];omega
  ·obtain rfl:k= s.aP.length:=o_;have HO:=h_ (HT hok.out);go_wp2;go_returns;exact⟨bZ (HE.trans HO.out).symm,yF.out⟩
theorem Fj{b aK aq out ticks T room:Int}(hb:0≤ b)(hb2:b≤ 1000000000)(hr:0≤ aK)(hr2:aK≤ 1000000)(hT:bL ticks 0 1099511627776=T)(hroom:qA aq out=room):
 (room≤b→ dH b aK aq out ticks=room)∧(b<room→ 0<aK→ (room-b)/aK< T→dH b aK aq out ticks=room)∧(b<room→ 0<aK→ T≤(room-b)/aK→ dH b aK aq out ticks=b+ aK*T∧ aK*T≤ room-b)∧(b<room→ aK=0→ dH b aK aq out ticks=b):=by
 obtain⟨h1,h2⟩:=iA aq out;obtain⟨h3,h4⟩:=eA ticks 0 1099511627776 o_;rw[hT]at h3 h4;rw[hroom]at h1 h2;have e1:bL b 0 2305843009213693952=b:= by unfold bL;omega
 have e2:bL aK 0 1000000=aK:= by unfold bL;omega
 have h5:0≤ aK*T:= Int.mul_nonneg hr h3;have hc:dH b aK aq out ticks=min (max (b+aK* T) 0) room:=by
  unfold dH gF;rw[e1,e2,hT,hroom];rfl
 rw[hc];refine⟨fun h=>by omega,fun h h0 hq=> ?_,fun h h0 hq=> ?_,fun h h0=> ?_⟩
 ·have h6:room- b<aK* T:=by
   have:=Int.lt_mul_of_ediv_lt h0 hq;rw[Int.mul_comm]at this;exact this
  omega
 ·have h6:aK* T≤room- b:=by
   have:=Int.mul_le_of_le_ediv h0 hq;rw[Int.mul_comm]at this;exact this
  exact⟨by omega,h6⟩
 ·subst h0;omega
theorem Zc {P:Prop}(h:P:=by
 rcases Tj with⟨a1,rfl⟩|⟨a1,rfl⟩|⟨a1,a2,rfl⟩
 all_goals
  go_enter Tryz.func80,Tryz.ntmps80;go_wp2_with(go_at_call 139;((with_reducible refine(HR.out _).mono ?_);rintro e w' ⟨rfl,rfl⟩))
  try(go_returns;exact⟨dZ (by rw[HO.out];try omega),rfl⟩)):P:=h
theorem Zd {P:Prop}(h:P:=by
 rcases Tj with⟨a1,rfl⟩|⟨a1,rfl⟩|⟨a1,a2,rfl⟩
 all_goals
  go_enter Tryz.func80,Tryz.ntmps80;go_wp2_with(go_at_call 139;((with_reducible refine(HR.out _).mono ?_);rintro e w' ⟨rfl,rfl⟩))
  try(go_returns;exact⟨dZ HO.symm,rfl⟩)):P:=h
theorem Cc(b aK aq out ticks:Int)(w:World)(hb:0≤ b)(hb2:b≤ 1000000000)(hr:0≤ aK)(hr2:aK≤ 1000000):
 Calls Tryz.prog 80 (mh b aK aq out ticks) w fun e w'=>e= .returned (.int .i64 (dH b aK aq out ticks))∧w= w':=by
 have main:∀T room:Int,bL ticks 0 1099511627776=T→ qA aq out=room→ (ticks<0∧ T=0∨ 1099511627776<ticks∧ T=1099511627776∨ 0≤ticks∧ ticks≤1099511627776∧ T=ticks)→
  Calls Tryz.prog 80 (mh b aK aq out ticks) w fun e w'=>e= .returned (.int .i64 (dH b aK aq out ticks))∧w= w':=by
  intro T room hT hroom Tj;obtain⟨c1,c2,c3,c4⟩:=Fj hb hb2 hr hr2 hT hroom;obtain⟨r1,r2⟩:=iA aq out;have HR:=h_ (xO aq out);rw[hroom]at r1 r2 HR;have C1:=h_ c1;have C2:=h_ c2;have C3:=h_ c3;have C4:=h_ c4;generalize dH b aK aq out ticks=res at C1 C2 C3 C4 ⊢;clear c1 c2 c3 c4 hT hroom;have hm:(room-b).tdiv aK=(room-b)/aK∨ room<b:= by
   by_cases h:0≤ room-b
   ·exact .inl (Int.tdiv_eq_ediv_of_nonneg h)
   ·exact .inr o_
  by_cases g1:room≤ b
  ·have HO:=h_ (C1.out g1);exact Zd
  ·by_cases g2:aK= 0
   ·have HO:=h_ (C4.out o_ g2);subst g2;exact Zc
   ·have g3:0< aK:=o_;have hdiv:(room-b).tdiv aK=(room-b)/aK:= Int.tdiv_eq_ediv_of_nonneg o_;have hq0:0≤ (room-b)/aK:= Int.ediv_nonneg o_ o_;have hq1:(room-b)/aK≤ room-b:= Int.ediv_le_self _ o_;have C2':=h_ (C2.out o_ g3);have C3':=h_ (C3.out o_ g3);generalize hqq:(room-b)/aK= q at hdiv hq0 hq1 C2' C3';clear hm hqq C1 C2 C3 C4;by_cases g4:q< T
    ·have HO:=h_ (C2'.out g4);exact Zd
    ·obtain⟨h8,h9⟩:=C3'.out o_;have HO:=h_ h8;have h10:0≤ aK*T:= Int.mul_nonneg hr o_;clear h8;exact Zc
 exact main _ _ rfl rfl (by unfold bL;omega)
theorem xM(b aq out size:Int)(w:World)(hb:0≤ b)(hb2:b≤ 1000000000)(hs:0≤ size)(hs2:size≤ 1000000):
 Calls Tryz.prog 93 (vi4 b aq out size) w fun e w'=>e= .returned (.int .i64 (iy b aq out size))∧w= w':=by
 have HC:=h_ (ua (b+1000* size) aq out w);have HB:Hid (iy b aq out size=gF (b+1000* size) aq out):=by
  show _=_
  unfold iy;rw[show bL b 0 2305843009213693952=b from by unfold bL;omega,show bL size 0 1000000=size from by unfold bL;omega]
 generalize iy b aq out size=res at HB ⊢;go_enter Tryz.func93,Tryz.ntmps93;go_wp2_with(go_at_call 144;((with_reducible refine HC.out.mono ?_);rintro e w' ⟨rfl,rfl⟩));go_returns;exact⟨dZ HB.symm,rfl⟩
def sO(s:St)(le:Int):St:= {s with ai:=s.ai.filter fun y=> !decide (y.id=le)}
def XQ(w:World)(B:Nat)(r:Raw)(wo:St)(e:Ending)(w':World):Prop:= ∃sl: sH,e= .returned (Raw.agg ⟨r.term,r.ag,r.next,r.cD,sl,r.eY,r.ft⟩)∧cK aJ w' B sl wo.ai∧cg w.heap.size none sl.a∧Below w.heap.size w w'
theorem NV:sG Tryz.prog 23 59 7 56:=aJ.elem Tryz.underlying23
theorem lG(s:St)(r:Raw)(B:Nat)(le:Int)(w:World)(h:aX w B r s)(hl2:s.ai.length≤ 900)(hB:B≤ w.heap.size):
 Calls Tryz.prog 91 #[r.agg,.int .i64 le] w (XQ w B r (sO s le)):=by
 obtain⟨term,ag,next,⟨a1,n1,c1⟩,⟨a2,n2,c2⟩,⟨a3,n3,c3⟩,⟨a4,n4,c4⟩⟩:=r;have HS:=h_ h;have hr:=h.cG.row;have iX:s.ai.length= n2:=h.cG.len;subst iX;simp only at hr;have uB:=h_ (fun k (hk:k< s.ai.length)=>List.take_succ_eq_append_getElem hk);have Qs:Hid ((s.ai.take s.ai.length).filter (fun y=> !decide (y.id=le))=(sO s le).ai):=by show _=_;rw[List.take_length];rfl
 have HWO:Hid (∀l,l=(sO s le).ai→sO s le={s with ai:=l}):=fun l e=>by rw[e];rfl
 generalize sO s le=wo at Qs HWO ⊢
 have cT:Hid (∀w',Below (w.heap.size+2) ((w.alloc (.cells (aw term ag next a1 n1 c1 a2 s.ai.length c2 a3 n3 c3 a4 n4 c4) 27)).alloc (.cells aS 27)) w'→
  aU w' w.heap.size (Raw.cells ⟨term,ag,next,⟨a1,n1,c1⟩,⟨a2,s.ai.length,c2⟩,⟨a3,n3,c3⟩,⟨a4,n4,c4⟩⟩)∧aU w' (w.heap.size+1) (Raw.cells ⟨0,0,0,⟨none,0,0⟩,⟨none,0,0⟩,⟨none,0,0⟩,⟨none,0,0⟩⟩)):=fun w' hb0=>by
  have e:((w.alloc (.cells (aw term ag next a1 n1 c1 a2 s.ai.length c2 a3 n3 c3 a4 n4 c4) 27)).alloc (.cells aS 27)).heap.size=w.heap.size+ 2:=by simp
  rw[←e]at hb0;exact⟨aU.aR (ah hb0),aU.cn hb0⟩
 have kU:Below w.heap.size w ((w.alloc (.cells (aw term ag next a1 n1 c1 a2 s.ai.length c2 a3 n3 c3 a4 n4 c4) 27)).alloc (.cells aS 27)):=aH;have BW:=h_ kU;clear h kU;go_enter Tryz.func91,Tryz.ntmps91;go_wp2
 go_loopw [5,6] (fun l i wr=>∃k: Nat,∃a c,k≤s.ai.length∧ i= .int .i64 k∧l= .slice a ((s.ai.take k).filter (fun y=> !decide (y.id=le))).length c∧Hid (wr.ownsRow (w.heap.size+2) 59 7 (.slice a ((s.ai.take k).filter (fun y=> !decide (y.id=le))).length c) ((s.ai.take k).filter (fun y=> !decide (y.id=le))).length (((s.ai.take k).filter (fun y=> !decide (y.id=le))).flatMap aJ.cells))∧
  Below (w.heap.size+2) ((w.alloc (.cells (aw term ag next a1 n1 c1 a2 s.ai.length c2 a3 n3 c3 a4 n4 c4) 27)).alloc (.cells aS 27)) wr) (fun _ i _=>s.ai.length- (intOf i).toNat)
 case atStart=>exact ⟨0,none,0,by omega,rfl,rfl,World.ownsRow_nil _ _ _ _,Below.refl _ _⟩
 case round=>
  obtain⟨k,a,c,hk,rfl,rfl,hown,hb0⟩:=hrel;have hb:Below w.heap.size w wr:=BW.out.trans (hb0.mono o_);have nR:=h_ (cT wr hb0);have hsz:=hb0.size;simp only[World.size_alloc]at hsz;have k4:=nR.1.cell (j:=4) rfl;have lH:=h_ hb0;by_cases hlt:k< s.ai.length
  ·have uA:=h_ (uB k hlt);obtain⟨b,o,ha,hcs⟩:=bF.range hr hlt;subst ha;have gB:=h_ (hcs wr hb);have hx0:wr.cell? ⟨b,o+k* 7,none⟩=some (.int .i64 s.ai[k].id):=(oL (gB.out)).1;generalize s.ai[k]=x at hx0 gB uA;obtain⟨v0,v1,v2,v3,v4,v5,v6⟩:=x;simp only at hx0;clear hcs;have hfl:((s.ai.take k).filter (fun y=> !decide (y.id=le))).length≤k:= by
    have:=List.length_filter_le (fun y:aV=> !decide (y.id=le)) (s.ai.take k);rw[List.length_take]at this;omega
   by_cases he:v0= le
   ·have HF:Hid ((s.ai.take (k+1)).filter (fun y=> !decide (y.id=le))=(s.ai.take k).filter (fun y=> !decide (y.id=le))):=by show _=_;rw[uA.out,List.filter_append];simp[he]
    go_wp2;go_roundw
    case rel=>exact ⟨k+1,a,c,by omega,by go_num,by rw[HF.out],by show World.ownsRow _ _ _ _ _ _ _;rw[HF.out];exact hown.out,lH.out⟩
    case measure=>simp [intOf];omega
   ·have HF:Hid ((s.ai.take (k+1)).filter (fun y=> !decide (y.id=le))=(s.ai.take k).filter (fun y=> !decide (y.id=le))++[⟨v0,v1,v2,v3,v4,v5,v6⟩]):=by show _=_;rw[uA.out,List.filter_append];simp[he]
    go_wp2_with(first|(refine aa aJ rfl (.tmp 26) rfl b (o+k* 7) rfl ⟨v0,v1,v2,v3,v4,v5,v6⟩ (.agg (xd v0 v1 v2 v3 v4 v5 v6)) rfl gB.out ?_)|(at_builtin;refine eX NV rfl _ _ rfl (w.heap.size+2) _ ((s.ai.take k).filter (fun y=> !decide (y.id=le))).length _ rfl (hown.out.alloc _) (some ⟨wr.heap.size,0,none⟩) 1 1 (xd v0 v1 v2 v3 v4 v5 v6) rfl rfl (Row.new _ _ _ _) (aJ.one ⟨v0,v1,v2,v3,v4,v5,v6⟩) o_ (by simp;omega) ?_;intro Wh QS w4 eG hg4;have hb4:=Below.app (lH.alloc o_ _) (hown.out.alloc _) hg4 (by simp;omega);have Dw:=h_ eG;have og:=h_ hb4;clear hg4 eG hb4));go_roundw
    case rel=>exact ⟨k+1,Wh,QS,by omega,by go_num,by rw[HF.out];simp,by show World.ownsRow _ _ _ _ _ _ _;rw[HF.out,List.length_append,List.flatMap_append,List.flatMap_cons,List.flatMap_nil,List.append_nil];exact Dw.out,og.out⟩
    case measure=>simp [intOf];omega
  ·obtain rfl:k= s.ai.length:=o_;have hown':=hown.out;rw[Qs.out]at hown' ⊢;have HOW:=h_ hown';have HLEN:Hid (wo.ai.length=wo.ai.length):=rfl;clear hown hown';generalize hll:wo.ai= ll at HOW ⊢;have TQ:=h_ hll;clear hll;go_wp2_with(first|(refine bE rfl (.tmp 31) (.tmp 30) rfl cF.1 w.heap.size 4 _ (.slice a ll.length c) rfl rfl rfl rfl nR.1 (by simp) ?_;intro w6 N9 kJ;have nQ:Hid (aU w6 w.heap.size (Raw.cells ⟨term,ag,next,⟨a1,n1,c1⟩,⟨a,ll.length,c⟩,⟨a3,n3,c3⟩,⟨a4,n4,c4⟩⟩)):=N9;have vR:=h_ kJ;have Bz:=h_ (nR.2.wrote kJ o_);have q6:=kJ.size;clear N9 kJ)|(refine aa aG rfl (.tmp 2) rfl w.heap.size 0 rfl ⟨term,ag,next,⟨a1,n1,c1⟩,⟨a,ll.length,c⟩,⟨a3,n3,c3⟩,⟨a4,n4,c4⟩⟩ (.agg (aw term ag next a1 n1 c1 a ll.length c a3 n3 c3 a4 n4 c4)) rfl nQ.range ?_)|(refine av aG rfl (.tmp 4) (.tmp 32) rfl (w.heap.size+1) ⟨term,ag,next,⟨a1,n1,c1⟩,⟨a,ll.length,c⟩,⟨a3,n3,c3⟩,⟨a4,n4,c4⟩⟩ _ rfl rfl Bz.out rfl ?_;intro w7 zT eO;have gX:=h_ zT;have E3:=h_ eO;clear zT eO));have b7:Below w.heap.size w w7:=(hb.trans (vR.below _ n_)).trans (E3.below _ o_);obtain⟨k0,k1,k2,k3,k4,k5,k6⟩:=bP gX.range;refine bodyPost_ret (v:= .agg (aw term ag next a1 n1 c1 a ll.length c a3 n3 c3 a4 n4 c4)) (by simp[results,Tryz.results91,go_sem,k0,k1,k2,k3,k4,k5,k6]) rfl ?_;have m67:cx (w.heap.size+2) wr.heap.size wr w7:=((cx.refl _ _ _).wrote vR.out (.inl o_)).wrote E3.out (.inl o_);have o7:=yU HOW.out m67 n_ n_;obtain⟨_,_,hv,h1,_,h3⟩:=eN o7;simp only[Value.slice.injEq]at hv;obtain⟨rfl,_,rfl⟩:=hv;refine⟨⟨a,ll.length,c⟩,rfl,?_,cg.own o7 o_,b7⟩;rw[TQ.out];exact⟨rfl,h1,h3,cg.own o7 o_,jO o7⟩
def Ms(s:St)(zs:List Int):St:= {s with ai:=s.ai.filter fun x=> !zs.contains x.id}
theorem SA(s:St):Ms s []=s:= by
 have:s.ai.filter (fun x=> !([]:List Int).contains x.id)=s.ai:= List.filter_eq_self.2 fun x _=>rfl
 unfold Ms;rw[this]
theorem PG{s:St}{zs:List Int}{k:Nat}(h:k< zs.length):sO (Ms s (zs.take k)) zs[k]=Ms s (zs.take (k+1)):=by
 rw[List.take_succ_eq_append_getElem h];generalize zs.take k=l;generalize zs[k]=z;unfold sO Ms;simp only[List.filter_filter]
 congr 1
 refine List.filter_congr fun x _=> ?_
 by_cases e:x.id= z
 ·simp[e]
 ·simp[e]
theorem Mi{s:St}(h:cp s=true):aZ 0 s.ax=true∧ Fits s.ai:=by
 unfold cp at h;simp only[Bool.and_eq_true]at h;exact⟨h.1.1,bU h.1.1 h.1.2.1⟩
theorem wS(s:St)(r:Raw)(B:Nat)(zs:List Int)(za:Option Addr)(zn zc:Nat)(w:World)(h:aX w B r s)(cC:s.ax.length≤ 900)(hl2:s.ai.length≤ 900)(cS:s.cd.length≤ 900)(hl4:s.aP.length≤ 900)(Z3:zs.length= zn)(hzl:zn≤ 1000)(hz:Row w za (zs.map (Value.int .i64)))(BB:Nat)(FB:BB= 0∨(cp s=true∧ BB≤w.heap.size)):
 Calls Tryz.prog 52 #[r.agg,.slice za zn zc] w (mi w BB (eW s zs)):=by
 have Bh:=h_ FB;clear FB;have HS:=h_ h;have HL:=h_ (And.intro cC (And.intro hl2 (And.intro cS hl4)));have fZ:=h_ (fun w' (hb:Below w.heap.size w w')=>cY s r B w' (h.below hb) cC hl2);have mq:=h_ (fun w' (hb:Below w.heap.size w w')=>eJ s r B w' (h.below hb) cC hl2 cS hl4);have HZ:=h_ hz;have HE:Hid (eW s zs=if cp s=true then bG (Ms s zs)else s):=rfl;generalize eW s zs=res at HE ⊢;obtain⟨term,ag,next,⟨a1,n1,c1⟩,⟨a2,n2,c2⟩,⟨a3,n3,c3⟩,⟨a4,n4,c4⟩⟩:=r
 have cT:Hid (∀w',Below ((w.alloc (.cells (aw term ag next a1 n1 c1 a2 n2 c2 a3 n3 c3 a4 n4 c4) 27)).alloc (.cells aS 27)).heap.size ((w.alloc (.cells (aw term ag next a1 n1 c1 a2 n2 c2 a3 n3 c3 a4 n4 c4) 27)).alloc (.cells aS 27)) w'→
  aU w' w.heap.size (Raw.cells ⟨term,ag,next,⟨a1,n1,c1⟩,⟨a2,n2,c2⟩,⟨a3,n3,c3⟩,⟨a4,n4,c4⟩⟩)∧aU w' (w.heap.size+1) (Raw.cells ⟨0,0,0,⟨none,0,0⟩,⟨none,0,0⟩,⟨none,0,0⟩,⟨none,0,0⟩⟩)∧w.heap.size+ 2≤w'.heap.size):=
  fun w' hb=>⟨aU.aR (ah hb),aU.cn hb,by have:=hb.size;simp at this;omega⟩
 clear h cC hl2 cS hl4 hz;cases hok:cp s with
 |false=>
  have lH:Hid (BB=0):=h_ (by
   rcases Bh.out with h|⟨h,_⟩
   ·exact h
   ·rw[hok]at h;cases h)
  have fT:=h_ hok;have HO:Hid (res=s):=by show _=_;rw[HE.out,if_neg (by rw[hok];simp)]
  clear hok HE mq;go_enter Tryz.func52,Tryz.ntmps52;go_wp2_with(first|(refine aa aG rfl (.tmp 2) rfl w.heap.size 0 rfl ⟨term,ag,next,⟨a1,n1,c1⟩,⟨a2,n2,c2⟩,⟨a3,n3,c3⟩,⟨a4,n4,c4⟩⟩ (.agg (aw term ag next a1 n1 c1 a2 n2 c2 a3 n3 c3 a4 n4 c4)) rfl (cT _ aH).1.range ?_)|(go_at_call 26;((with_reducible refine(fZ.out _ aH).mono ?_);rw[fT.out];rintro e w3 ⟨rfl,hb3⟩;have jx:=h_ (cT w3 aH)))|(refine av aG rfl (.tmp 4) (.tmp 10) rfl (w.heap.size+1) ⟨term,ag,next,⟨a1,n1,c1⟩,⟨a2,n2,c2⟩,⟨a3,n3,c3⟩,⟨a4,n4,c4⟩⟩ _ rfl rfl jx.2.1 rfl ?_;intro w4 hb4 hw4;have gm:=h_ hb4;have Hy:=h_ hw4;clear hb4 hw4));have b3:Below w.heap.size w w3:=aH;have b4:Below w.heap.size w w4:=b3.trans (Hy.below _ o_);obtain⟨k0,k1,k2,k3,k4,k5,k6⟩:=bP gm.range;refine bodyPost_ret (v:= .agg (aw term ag next a1 n1 c1 a2 n2 c2 a3 n3 c3 a4 n4 c4)) (by simp[results,Tryz.results52,go_sem,k0,k1,k2,k3,k4,k5,k6]) rfl ?_;refine⟨⟨term,ag,next,⟨a1,n1,c1⟩,⟨a2,n2,c2⟩,⟨a3,n3,c3⟩,⟨a4,n4,c4⟩⟩,rfl,?_,b4⟩;rw[HO.out];exact(HS.below b4).mono (Nat.le_trans (Nat.le_of_eq lH.out) (Nat.zero_le _))
 |true=>
  have fT:=h_ hok;have HO:Hid (res=bG (Ms s zs)):=by show _=_;rw[HE.out,if_pos hok]
  have fh:=h_ (Mi hok).2;have nP:Hid True:=trivial;have uz:=h_ (fun q B' w' (h':aX w' B' q (Ms s zs)) (hB':B'≤ w'.heap.size)=>fe (Ms s zs) q B' w' h' (fh.sub (fun x hx=>(List.mem_filter.1 hx).1)) HL.1 (Nat.le_trans (List.length_filter_le _ _) HL.2.1) hB');clear hok HE;go_enter Tryz.func52,Tryz.ntmps52;go_wp2_with(first|(refine aa aG rfl (.tmp 2) rfl w.heap.size 0 rfl ⟨term,ag,next,⟨a1,n1,c1⟩,⟨a2,n2,c2⟩,⟨a3,n3,c3⟩,⟨a4,n4,c4⟩⟩ (.agg (aw term ag next a1 n1 c1 a2 n2 c2 a3 n3 c3 a4 n4 c4)) rfl (by first|exact jx.1.range|exact (cT _ aH).1.range) ?_)|(go_at_call 26;((with_reducible refine(fZ.out _ aH).mono ?_);rw[fT.out];rintro e w3 ⟨rfl,hb3⟩;have jx:=h_ (cT w3 aH)))|(go_at_call 23;((with_reducible refine(mq.out _ aH).mono ?_);rintro e w4 ⟨⟨t4,s4,mj,⟨x1,m1,y1⟩,⟨x2,m2,y2⟩,⟨x3,m3,y3⟩,⟨x4,m4,y4⟩⟩,rfl,fA,hb4⟩;have iB:=h_ fA;have gm:=h_ (cT w4 aH);have q3:=jx.2.2;have q4:=hb4.size;clear fA))|(refine aI aG rfl (.tmp 5) (.tmp 12) rfl ⟨t4,s4,mj,⟨x1,m1,y1⟩,⟨x2,m2,y2⟩,⟨x3,m3,y3⟩,⟨x4,m4,y4⟩⟩ rfl rfl rfl ?_;intro w5 dC xD cv hs5;have pC:Hid (aU w5 w4.heap.size (Raw.cells ⟨t4,s4,mj,⟨x1,m1,y1⟩,⟨x2,m2,y2⟩,⟨x3,m3,y3⟩,⟨x4,m4,y4⟩⟩)):=⟨dC,xD⟩;have jy:=h_ (gm.1.below cv o_);have xZ:=h_ (gm.2.1.below cv o_);have jD:=h_ (iB.eH (cx.below cv n_:cx w3.heap.size w4.heap.size w4 w5) n_ n_);have qH:Below w.heap.size w w5:=Below.trans (show Below w.heap.size w w4 from aH) (cv.mono o_);clear dC xD));have kO:=h_ cv;have i4:=iB.is;have Ws:i4.cG= i4.cG:=rfl;have HLT:=h_ (fun b o q (e:x2= some ⟨b,o,q⟩)=>Nat.ne_of_lt (iB.lt b o q e));have Xn:=h_ (fun w' (hb:Below w4.heap.size w4 w') sl l (h:cK aJ w' w3.heap.size sl l)=>(⟨i4.term,i4.ag,i4.next,i4.cD.below hb,h,i4.eY.below hb,i4.ft.below hb⟩:aX w' w3.heap.size ⟨t4,s4,mj,⟨x1,m1,y1⟩,sl,⟨x3,m3,y3⟩,⟨x4,m4,y4⟩⟩ {s with ai:=l}));have HL5:=h_ jD.is.cG;clear i4 Ws;go_loopw [6] (fun i wr=>∃k: Nat,∃sl: sH,k≤zs.length∧ i= .int .i64 k∧Hid (aU wr w4.heap.size (Raw.cells ⟨t4,s4,mj,⟨x1,m1,y1⟩,sl,⟨x3,m3,y3⟩,⟨x4,m4,y4⟩⟩))∧Hid (cK aJ wr w3.heap.size sl (Ms s (zs.take k)).ai)∧Hid (∀b o q,sl.a=some ⟨b,o,q⟩→b≠ w4.heap.size)∧Below w4.heap.size w4 wr) (fun i _=>zs.length- (intOf i).toNat)
  case atStart=>exact ⟨0,⟨x2,m2,y2⟩,by omega,rfl,pC.out,by have h:=HL5.out;rw[←SA s]at h;exact h,HLT.out,cv⟩
  case round=>
   obtain⟨k,⟨z2,o2,v2⟩,hk,rfl,ZT,hsq,hne,N8⟩:=hrel;have tu:=h_ (Below.trans (show Below w.heap.size w w4 from aH) (N8.mono o_));have qr:=N8.size;have DZ:=ZT.out.lt (by simp);have ZM:=h_ (Xn wr N8 _ _ hsq.out);have HZR:=h_ (gm.2.1.below N8 o_);by_cases hlt:k< zs.length
   ·obtain⟨b,o,rfl,hcell⟩:=Row.jH HZ.out (k:=k) (by rw[List.getElem?_map,List.getElem?_eq_getElem hlt];rfl);have hcl:=hcell _ tu.out;have nA:=h_ (PG (s:=s) hlt);generalize zs[k]=z at hcl nA;clear hcell;obtain⟨⟨k0,k1,k2,k3,k4,k5,k6⟩,_,_⟩:=ZT.out.st;simp only at k0 k1 k2 k3 k4 k5 k6;have HW:=h_ (fun w' (hb:Below wr.heap.size wr w')=>lG (Ms s (zs.take k)) _ w3.heap.size z w' (ZM.below hb) (Nat.le_trans (List.length_filter_le _ _) HL.2.1) (by have:=hb.size;omega));have agh:zs.length≤ 1000:=o_;have hzk:(k:Int)<(zn:Int):=o_;go_wp2;go_still_tail 5,k_
    change wpList _ _ _ _ _ wr.drew
    clear k0 k1 k2 k3 k4 k5 k6 hcl;go_wp2_with(first|(go_at_call 91;((with_reducible refine(HW.out wr.drew b_.drew).mono ?_);rintro e w6 ⟨⟨d2,e2,f2⟩,rfl,YG,Yr,df⟩;have UN:Below wr.heap.size wr w6:=⟨df.os,df.tape,df.output,df.size,df.block⟩;have aba:=h_ YG;have aaR:=h_ Yr;have nQ:=h_ (ZT.out.below UN o_);have q6:=UN.size;have cN:=h_ (N8.trans (UN.mono o_));clear YG Yr df))|(refine av aG rfl (.tmp 5) (.tmp 24) rfl w4.heap.size ⟨t4,s4,mj,⟨x1,m1,y1⟩,⟨d2,e2,f2⟩,⟨x3,m3,y3⟩,⟨x4,m4,y4⟩⟩ _ rfl rfl nQ.out rfl ?_;intro w7 zT eO;have gX:=h_ zT;have E3:=h_ eO;clear zT eO));have Yo:∀b o q,d2=some ⟨b,o,q⟩→b≠ w4.heap.size:=fun b o q e=>by
     rcases aaR.out b o q e with h1|⟨_,_,h1⟩
     ·have h2:wr.heap.size≤ b:=h1;omega
     ·cases h1
    have l7:cK aJ w7 w3.heap.size ⟨d2,e2,f2⟩ (Ms s (zs.take (k+1))).ai:=by
     have h:=aba.out;rw[nA.out]at h;exact⟨h.len,h.le,h.nil,h.eZ,h.row.bY (g:=w4.heap.size) (fun j _ hj=>E3.bY j hj) Yo⟩
    exact⟨⟨k+1,⟨d2,e2,f2⟩,by omega,by go_num,gX.out,l7,Yo,cN.trans (E3.below _ n_)⟩,by simp[intOf];omega⟩
   ·obtain rfl:k= zs.length:=o_;have hsr:=ZM.out;rw[List.take_length]at hsr;have T9:Hid (aX wr w3.heap.size ⟨t4,s4,mj,⟨x1,m1,y1⟩,⟨z2,o2,v2⟩,⟨x3,m3,y3⟩,⟨x4,m4,y4⟩⟩ (Ms s zs)):=hsr;clear hsr;go_wp2_with(first|(refine aa aG rfl (.tmp 5) rfl w4.heap.size 0 rfl ⟨t4,s4,mj,⟨x1,m1,y1⟩,⟨z2,o2,v2⟩,⟨x3,m3,y3⟩,⟨x4,m4,y4⟩⟩ (.agg (aw t4 s4 mj x1 m1 y1 z2 o2 v2 x3 m3 y3 x4 m4 y4)) rfl ZT.out.range ?_)|(go_at_call 81;have hsw:=uz.out _ _ wr T9.out o_;((with_reducible refine hsw.mono ?_);clear hsw;rintro e w6 ⟨⟨t5,s5,OT,⟨c1',d1,e1⟩,⟨QS,d2,e2⟩,⟨c3',d3,e3⟩,⟨c4',d4,e4⟩⟩,rfl,kI,df⟩;have fU:=h_ kI;have Bz:=h_ (HZR.below df o_);have q6:=df.size;clear kI))|(refine av aG rfl (.tmp 4) (.tmp 26) rfl (w.heap.size+1) ⟨t5,s5,OT,⟨c1',d1,e1⟩,⟨QS,d2,e2⟩,⟨c3',d3,e3⟩,⟨c4',d4,e4⟩⟩ _ rfl rfl Bz.out rfl ?_;intro w8 eD fH;have iY:=h_ eD;have iT:=h_ fH;clear eD fH));have b8:Below w.heap.size w w8:=(tu.trans (df.mono o_)).trans (iT.below _ o_);obtain⟨k0,k1,k2,k3,k4,k5,k6⟩:=bP iY.range;refine bodyPost_ret (v:= .agg (aw t5 s5 OT c1' d1 e1 QS d2 e2 c3' d3 e3 c4' d4 e4)) (by simp[results,Tryz.results52,go_sem,k0,k1,k2,k3,k4,k5,k6]) rfl ?_;refine⟨⟨t5,s5,OT,⟨c1',d1,e1⟩,⟨QS,d2,e2⟩,⟨c3',d3,e3⟩,⟨c4',d4,e4⟩⟩,rfl,?_,b8⟩;rw[HO.out]
    exact(fU.eH ((cx.refl w3.heap.size w6.heap.size w6).wrote iT.out (.inl o_)) n_ n_).mono (by
     rcases Bh.out with h|⟨_,h⟩
     ·omega
     ·omega)
theorem Cg(s:St)(r:Raw)(B:Nat)(zs:List Int)(za:Option Addr)(zn zc:Nat)(w:World)(h:aX w B r s)(cC:s.ax.length≤ 900)(hl2:s.ai.length≤ 900)(cS:s.cd.length≤ 900)(hl4:s.aP.length≤ 900)(Z3:zs.length= zn)(hzl:zn≤ 1000)(hz:Row w za (zs.map (Value.int .i64)))(hok:cp s=true):
 Calls Tryz.prog 52 #[r.agg,.slice za zn zc] w (mi w w.heap.size (eW s zs)):=
 wS s r B zs za zn zc w h cC hl2 cS hl4 Z3 hzl hz w.heap.size (.inr ⟨hok,Nat.le_refl _⟩)
end Go.Proofs.YtfdmhpohfjbpfaaGreat
namespace Go.Proofs.YtfdmhpohfjbpfaaGreat
set_option maxHeartbeats 16000000
theorem Q3{s:St}(h:cp s=true)(sh ep le:Int):s.ai.find? (gV sh ep le)=if (fE s le).2=true∧ (fE s le).1.ak=sh∧ (fE s le).1.aM=ep then some (fE s le).1 else none:=by
 have hr:=lF (bI h).2.1;have oP:fE s le=match pN s le with|some x=>(x,true)|none=> (mH,false):=by unfold fE;exact if_pos h
 cases hf:pN s le with
 |none=>
  rw[hf]at oP;rw[oP,if_neg (by simp),List.find?_eq_none];intro y hy hp;unfold pN fN at hf;have:=List.find?_eq_none.1 hf y hy;unfold gV at hp;simp at this hp;exact this hp.1
 |some x=>
  obtain⟨hx,he⟩:=wD hf;rw[hf]at oP;rw[oP];simp only[true_and];by_cases Qo:x.ak= sh∧x.aM= ep
  ·rw[if_pos Qo];exact Fw hx (by unfold gV;simp[he,Qo]) (fun y hy hp=>sy hr hy hx (by unfold gV at hp;simp at hp;omega))
  ·rw[if_neg Qo,List.find?_eq_none];intro y hy hp;unfold gV at hp;simp at hp;have:=sy hr hy hx o_;subst this;exact Qo hp.2
def qb(le sp:Int)(l:List aV)(i:Nat):List aV:=dP le sp (l.take i)++l.drop i
theorem Me(le sp:Int)(l:List aV):qb le sp l 0=l:= by simp[qb,dP]
theorem Mc(le sp:Int)(l:List aV):qb le sp l l.length=dP le sp l:=by simp[qb]
theorem GM(le sp:Int)(l:List aV)(i:Nat):(qb le sp l i).length=l.length:= by
 unfold qb;rw[List.length_append,oa,←List.length_append,List.take_append_drop]
theorem ue(le sp:Int)(l:List aV){i:Nat}(h:i< l.length):qb le sp l i=dP le sp (l.take i)++l[i]::l.drop (i+1):=by
 unfold qb;rw[List.drop_eq_getElem_cons h]
theorem De(le sp:Int)(l:List aV){i:Nat}(h:i< l.length):qb le sp l (i+1)=dP le sp (l.take i)++(if l[i].id=le then{l[i]with bN:=sp}else l[i])::l.drop (i+1):=by
 unfold qb dP;rw[List.take_succ_eq_append_getElem h,List.map_append,List.append_assoc];rfl
theorem Dd(le sp:Int)(l:List aV){i:Nat}(h:i< l.length):(dP le sp (l.take i)).length=i:= by
 rw[oa,List.length_take,Nat.min_eq_left (Nat.le_of_lt h)]
theorem Pm(le sp:Int)(l:List aV){i:Nat}(h:i< l.length)(h':i< (qb le sp l i).length):(qb le sp l i)[i]=l[i]:=by
 have e:=ue le sp l h;have hl:=Dd le sp l h;have:(qb le sp l i)[i]? =some l[i]:=by
  rw[e,List.getElem?_append_right o_,hl,Nat.sub_self];rfl
 rw[List.getElem?_eq_getElem h']at this;simpa using this
theorem Pn(le sp:Int)(l:List aV){i:Nat}(h:i< l.length)(he:l[i].id=le):qb le sp l (i+1)=(qb le sp l i).set i {l[i]with bN:=sp}:=by
 have hl:=Dd le sp l h;rw[De le sp l h,if_pos he,ue le sp l h,List.set_append_right _ _ o_,hl,Nat.sub_self];rfl
theorem Md(le sp:Int)(l:List aV){i:Nat}(h:i< l.length)(he:l[i].id≠le):qb le sp l (i+1)=qb le sp l i:=by
 rw[De le sp l h,if_neg he,ue le sp l h]
end Go.Proofs.YtfdmhpohfjbpfaaGreat
namespace Go.Proofs.YtfdmhpohfjbpfaaGreat
open Go.ChangeShapes Go.WideShapes Go.ChangeAt Go.RowKit
set_option maxRecDepth 100000
set_option maxHeartbeats 16000000
theorem Ze {P:Prop}(h:P:=by
 obtain⟨j0,j1,j2,j3,j4,j5,j6⟩:=kf gm.range;refine bodyPost_ret (v:= .tuple #[aV.agg mH,.bool false]) (by simp[results,Tryz.results90,go_sem,j0,j1,j2,j3,j4,j5,j6]) rfl ?_
 exact⟨by rw[HO.out],b4⟩):P:=h
theorem jf(s:St)(r:Raw)(B:Nat)(id:Int)(w:World)(h:aX w B r s)(cC:s.ax.length≤ 900)(hl2:s.ai.length≤ 900):
 Calls Tryz.prog 90 #[r.agg,.int .i64 id] w (XM w (fE s id)):=by
 have fZ:=h_ (fun w' (hb:Below w.heap.size w w')=>cY s r B w' (h.below hb) cC hl2);have HN:=h_ (Li (s:=s) (id:=id));have HB:=h_ (Ir (s:=s) (id:=id));have HY:=h_ (fun x h1 h2=>Iw (s:=s) (id:=id) (x:=x) h1 h2);generalize fE s id=res at HN HB HY ⊢;have hr:=h.cG.row;have iX:s.ai.length= r.cG.n:=h.cG.len;obtain⟨term,ag,next,⟨a1,n1,c1⟩,⟨a2,n2,c2⟩,⟨a3,n3,c3⟩,⟨a4,n4,c4⟩⟩:=r;simp only at iX hr;subst iX;clear h
 have cT:Hid (∀w',Below (w.heap.size+2) ((w.alloc (.cells (aw term ag next a1 n1 c1 a2 s.ai.length c2 a3 n3 c3 a4 n4 c4) 27)).alloc (.cells WT 59)) w'→
  aU w' w.heap.size (Raw.cells ⟨term,ag,next,⟨a1,n1,c1⟩,⟨a2,s.ai.length,c2⟩,⟨a3,n3,c3⟩,⟨a4,n4,c4⟩⟩)∧aU w' (w.heap.size+1) (aV.cells mH)):=fun w' hb0=>by
  have e:((w.alloc (.cells (aw term ag next a1 n1 c1 a2 s.ai.length c2 a3 n3 c3 a4 n4 c4) 27)).alloc (.cells WT 59)).heap.size=w.heap.size+ 2:=by simp
  rw[←e]at hb0;exact⟨aU.aR (ah hb0),aU.cn hb0⟩
 have kU:Below w.heap.size w ((w.alloc (.cells (aw term ag next a1 n1 c1 a2 s.ai.length c2 a3 n3 c3 a4 n4 c4) 27)).alloc (.cells WT 59)):=aH;have BW:=h_ kU;clear kU;go_enter Tryz.func90,Tryz.ntmps90;go_wp2;go_loopw [6] (fun i wr=>∃k: Nat,k≤s.ai.length∧ i= .int .i64 k∧Hid (∀j (h:j< s.ai.length),j<k→ (s.ai[j].id==id)=false)∧Below (w.heap.size+2) ((w.alloc (.cells (aw term ag next a1 n1 c1 a2 s.ai.length c2 a3 n3 c3 a4 n4 c4) 27)).alloc (.cells WT 59)) wr) (fun i _=>s.ai.length- (intOf i).toNat)
 case atStart=>exact ⟨0,by omega,rfl,(fun j _ hj=>by omega),Below.refl _ _⟩
 case round=>
  obtain⟨k,hk,rfl,hno,hb0⟩:=hrel;have hb:Below w.heap.size w wr:=BW.out.trans (hb0.mono o_);have lH:=h_ hb0;have hsz:=hb0.size;simp only[World.size_alloc]at hsz;have nR:=h_ (cT wr hb0);have k4:=nR.1.cell (j:=4) rfl;by_cases hlt:k< s.ai.length
  ·obtain⟨b,o,ha,hcs⟩:=bF.range hr hlt;subst ha;have gB:=h_ (fun w' hb=>hcs w' hb);have Br:=h_ hlt;cases hok:cp s with
   |false=>
    have fT:=h_ hok;have HO:=h_ (HB hok);clear hok hcs;go_wp2_with(first|(refine jw (by rfl) ?_;refine aa aG rfl (.tmp 2) rfl w.heap.size 0 rfl ⟨term,ag,next,⟨a1,n1,c1⟩,⟨some ⟨b,o,none⟩,s.ai.length,c2⟩,⟨a3,n3,c3⟩,⟨a4,n4,c4⟩⟩ (.agg (aw term ag next a1 n1 c1 (some ⟨b,o,none⟩) s.ai.length c2 a3 n3 c3 a4 n4 c4)) rfl nR.1.range ?_)|(go_at_call 26;((with_reducible refine(fZ.out wr hb).mono ?_);rw[fT.out];rintro e w3 ⟨rfl,hb3⟩;have zu:=h_ (nR.2.next (by simp) hb3);have q3:=hb3.size))|(refine av aJ rfl (.tmp 4) (.tmp 31) rfl (w.heap.size+1) mH _ rfl rfl zu.out rfl ?_;intro w4 DZ hw4;have gm:=h_ DZ;have Hy:=h_ hw4;clear DZ hw4));have b4:Below w.heap.size w w4:=(hb.trans (hb3.mono o_)).trans (Hy.below _ o_);exact Ze
   |true=>
    have fT:=h_ hok;have QG:=h_ (fun x h2=>HY.out x hok h2);have HFI:Hid ((s.ai[k].id==id)=true→ s.ai.find? (fun x=>x.id== id)=some s.ai[k]):=fun h=>List.find?_eq_some_iff_getElem.2 ⟨h,k,Br.out,rfl,fun j hj=>by rw[hno.out j o_ hj];rfl⟩
    have sP:Hid ((s.ai[k].id==id)=false→ ∀j (h:j< s.ai.length),j<k+ 1→(s.ai[j].id==id)=false):=fun h1 j h hj=>by
     rcases Nat.lt_succ_iff_lt_or_eq.1 hj with h2|rfl
     ·exact hno.out j h h2
     ·exact h1
    clear hok hcs;generalize s.ai[k]=x at gB HFI sP;obtain⟨v0,v1,v2,v3,v4,v5,v6⟩:=x;by_cases he:v0= id
    ·have HO:=h_ (QG _ (HFI (by simpa using he)));go_wp2_with(first|(refine jw (by rfl) ?_;refine aa aG rfl (.tmp 2) rfl w.heap.size 0 rfl ⟨term,ag,next,⟨a1,n1,c1⟩,⟨some ⟨b,o,none⟩,s.ai.length,c2⟩,⟨a3,n3,c3⟩,⟨a4,n4,c4⟩⟩ (.agg (aw term ag next a1 n1 c1 (some ⟨b,o,none⟩) s.ai.length c2 a3 n3 c3 a4 n4 c4)) rfl nR.1.range ?_)|(go_at_call 26;((with_reducible refine(fZ.out wr hb).mono ?_);rw[fT.out];rintro e w3 ⟨rfl,hb3⟩;have zu:=h_ (nR.2.next (by simp) hb3);have q3:=hb3.size;have Ga:=(nR.1.next (by simp) hb3).cell (j:=4) rfl;have po:=h_ (gB w3 (hb.trans (hb3.mono o_)));have hx0:w3.cell? ⟨b,o+k* 7,none⟩=some (.int .i64 v0):=(oL po.out).1;clear k4))|(refine aa aJ rfl (.tmp 29) rfl b (o+k* 7) rfl ⟨v0,v1,v2,v3,v4,v5,v6⟩ (.agg (xd v0 v1 v2 v3 v4 v5 v6)) rfl po.out ?_)|(refine av aJ rfl (.tmp 4) (.tmp 30) rfl (w.heap.size+1) ⟨v0,v1,v2,v3,v4,v5,v6⟩ _ rfl rfl zu.out rfl ?_;intro w4 DZ hw4;have gm:=h_ DZ;have Hy:=h_ hw4;clear DZ hw4));have b4:Below w.heap.size w w4:=(hb.trans (hb3.mono o_)).trans (Hy.below _ o_);obtain⟨j0,j1,j2,j3,j4,j5,j6⟩:=kf gm.range;refine bodyPost_ret (v:= .tuple #[aV.agg ⟨v0,v1,v2,v3,v4,v5,v6⟩,.bool true]) (by simp[results,Tryz.results90,go_sem,j0,j1,j2,j3,j4,j5,j6]) rfl ?_;exact⟨by rw[HO.out],b4⟩
    ·have HNN:=h_ (sP (by simpa using he));go_wp2_with(first|(refine jw (by rfl) ?_;refine aa aG rfl (.tmp 2) rfl w.heap.size 0 rfl ⟨term,ag,next,⟨a1,n1,c1⟩,⟨some ⟨b,o,none⟩,s.ai.length,c2⟩,⟨a3,n3,c3⟩,⟨a4,n4,c4⟩⟩ (.agg (aw term ag next a1 n1 c1 (some ⟨b,o,none⟩) s.ai.length c2 a3 n3 c3 a4 n4 c4)) rfl nR.1.range ?_)|(go_at_call 26;((with_reducible refine(fZ.out wr hb).mono ?_);rw[fT.out];rintro e w3 ⟨rfl,hb3⟩;have q3:=hb3.size;have Ga:=(nR.1.next (by simp) hb3).cell (j:=4) rfl;have po:=h_ (gB w3 (hb.trans (hb3.mono o_)));have hx0:w3.cell? ⟨b,o+k* 7,none⟩=some (.int .i64 v0):=(oL po.out).1;have mK:=h_ (lH.trans (hb3.mono o_));clear k4)));go_roundw
     case rel=>exact ⟨k+1,by omega,by go_num,HNN.out,mK.out⟩
     case measure=>simp [intOf];omega
  ·obtain rfl:k= s.ai.length:=o_
   have HO:=h_ (HN (List.find?_eq_none.2 fun x hx=>by
    obtain⟨j,hj,rfl⟩:=List.mem_iff_getElem.1 hx
    rw[hno.out j hj hj];simp))
   go_wp2_with(refine av aJ rfl (.tmp 4) (.tmp 31) rfl (w.heap.size+1) mH _ rfl rfl nR.2 rfl ?_;intro w4 DZ hw4;have gm:=h_ DZ;have Hy:=h_ hw4;clear DZ hw4);have b4:Below w.heap.size w w4:=hb.trans (Hy.below _ o_);exact Ze
end Go.Proofs.YtfdmhpohfjbpfaaGreat
