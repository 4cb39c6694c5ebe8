import Derived.Test.YtfdmhpohfjbpfaaGreatSr14
set_option linter.unusedVariables false
set_option linter.unusedSimpArgs false
namespace Go.Proofs.YtfdmhpohfjbpfaaGreat
open Go.ChangeShapes Go.WideShapes Go.ChangeAt Go.RowKit
set_option maxRecDepth 100000
set_option maxHeartbeats 16000000
theorem NF{w:World}{a:Option Addr}{ts:List aj}(h:bF aT w a ts){k:Nat}(hk:k< ts.length):∃b o,a=some ⟨b,o,none⟩∧∀w',Below w.heap.size w w'→
 w'.cell? ⟨b,o+k* 5,none⟩=some (.int .i64 ts[k].id)∧w'.cell? ⟨b,o+k* 5+1,none⟩=some (.int .i64 ts[k].aK)∧w'.cell? ⟨b,o+k* 5+2,none⟩=some (.int .i64 ts[k].aq)∧
 w'.cell? ⟨b,o+k* 5+3,none⟩=some (.int .i64 ts[k].bucket)∧w'.cell? ⟨b,o+k* 5+4,none⟩=some (.bool ts[k].gone):=dK.at h hk
theorem Sc {P:Prop}(h:P:=by
 clear hcs hcs';go_wp2;go_quiet (fail);go_wp2;go_roundw
 case rel=>exact ⟨k+1,by omega,by go_num,below_drewN lH.out _⟩
 case measure=>simp [intOf];omega):P:=h
theorem Pd(s:St)(r q:Raw)(B B':Nat)(w:World)(h:aX w B r s)(h':aX w B' q s)(cC:s.ax.length≤ 900)(hl2:s.ai.length≤ 900)(cS:s.cd.length≤ 900)(hl4:s.aP.length≤ 900):
 Calls Tryz.prog 25 #[r.agg,q.agg] w fun e w'=>e= .returned (.bool true)∧Below w.heap.size w w':=by
 obtain⟨term,ag,next,⟨a1,n1,c1⟩,⟨a2,n2,c2⟩,⟨a3,n3,c3⟩,⟨a4,n4,c4⟩⟩:=r;obtain⟨ml,jA,next',⟨b1,m1,d1⟩,⟨b2,m2,d2⟩,⟨b3,m3,d3⟩,⟨b4,m4,d4⟩⟩:=q;have e1:term= ml:=h.term.trans h'.term.symm;have e2:ag= jA:=h.ag.trans h'.ag.symm;have e3:next= next':=h.next.trans h'.next.symm;subst e1 e2 e3;obtain rfl:s.ax.length= n1:=h.cD.len;obtain rfl:s.ai.length= n2:=h.cG.len;obtain rfl:s.cd.length= n3:=h.eY.len;obtain rfl:s.aP.length= n4:=h.ft.len;obtain rfl:s.ax.length= m1:=h'.cD.len;obtain rfl:s.ai.length= m2:=h'.cG.len;obtain rfl:s.cd.length= m3:=h'.eY.len;obtain rfl:s.aP.length= m4:=h'.ft.len;have RT:=h_ (And.intro h.cD.row h'.cD.row);have RL:=h_ (And.intro h.cG.row h'.cG.row);have RS:=h_ (And.intro h.eY.row h'.eY.row);have RD:=h_ (And.intro h.ft.row h'.ft.row);have NT:=h_ Pt;have NL:=h_ Je;have NS:=h_ Jf;have ND:=h_ Jd;clear h h';have cT:Hid (∀w',Below (w.heap.size+2) ((w.alloc (.cells (aw term ag next a1 s.ax.length c1 a2 s.ai.length c2 a3 s.cd.length c3 a4 s.aP.length c4) 27)).alloc (.cells (aw term ag next b1 s.ax.length d1 b2 s.ai.length d2 b3 s.cd.length d3 b4 s.aP.length d4) 27)) w'→aU w' w.heap.size (Raw.cells ⟨term,ag,next,⟨a1,s.ax.length,c1⟩,⟨a2,s.ai.length,c2⟩,⟨a3,s.cd.length,c3⟩,⟨a4,s.aP.length,c4⟩⟩)∧aU w' (w.heap.size+1) (Raw.cells ⟨term,ag,next,⟨b1,s.ax.length,d1⟩,⟨b2,s.ai.length,d2⟩,⟨b3,s.cd.length,d3⟩,⟨b4,s.aP.length,d4⟩⟩)):=fun w' hb0=>by
  have e:((w.alloc (.cells (aw term ag next a1 s.ax.length c1 a2 s.ai.length c2 a3 s.cd.length c3 a4 s.aP.length c4) 27)).alloc (.cells (aw term ag next b1 s.ax.length d1 b2 s.ai.length d2 b3 s.cd.length d3 b4 s.aP.length d4) 27)).heap.size=w.heap.size+ 2:=by simp
  rw[←e]at hb0;exact⟨aU.aR (ah hb0),aU.cn hb0⟩
 have kU:Below w.heap.size w ((w.alloc (.cells (aw term ag next a1 s.ax.length c1 a2 s.ai.length c2 a3 s.cd.length c3 a4 s.aP.length c4) 27)).alloc (.cells (aw term ag next b1 s.ax.length d1 b2 s.ai.length d2 b3 s.cd.length d3 b4 s.aP.length d4) 27)):=aH;have BW:=h_ kU;clear kU;go_enter Tryz.func25,Tryz.ntmps25;go_wp2;go_loopw [5] (fun i wr=>∃k: Nat,k≤s.ax.length∧ i= .int .i64 k∧Below (w.heap.size+2) ((w.alloc (.cells (aw term ag next a1 s.ax.length c1 a2 s.ai.length c2 a3 s.cd.length c3 a4 s.aP.length c4) 27)).alloc (.cells (aw term ag next b1 s.ax.length d1 b2 s.ai.length d2 b3 s.cd.length d3 b4 s.aP.length d4) 27)) wr) (fun i _=>s.ax.length- (intOf i).toNat)
 case atStart=>exact ⟨0,by omega,rfl,Below.refl _ _⟩
 case round=>
  obtain⟨k,hk,rfl,hb0⟩:=hrel;have hb:Below w.heap.size w wr:=BW.out.trans (hb0.mono o_);have lH:=h_ hb0;obtain⟨pz,Bn⟩:=cT.out wr hb0;have p3:=pz.cell (j:=3) rfl;have q3:=Bn.cell (j:=3) rfl;clear pz Bn;by_cases hlt:k< s.ax.length
  ·obtain⟨b,o,ha,hcs⟩:=NF RT.out.1 hlt;obtain⟨b',o',ha',hcs'⟩:=NF RT.out.2 hlt;subst ha;subst ha';have hx:=hcs _ hb;have hy:=hcs' _ hb;have zZ:=fun w=>NT.out s.ax[k] s.ax[k] w
   rw[decide_eq_true rfl]at zZ;generalize s.ax[k]=x at hx hy zZ;exact Sc
  ·obtain rfl:k= s.ax.length:=o_;skip;go_wp2;go_loopw [6] (fun i wr=>∃k: Nat,k≤s.ai.length∧ i= .int .i64 k∧Below (w.heap.size+2) ((w.alloc (.cells (aw term ag next a1 s.ax.length c1 a2 s.ai.length c2 a3 s.cd.length c3 a4 s.aP.length c4) 27)).alloc (.cells (aw term ag next b1 s.ax.length d1 b2 s.ai.length d2 b3 s.cd.length d3 b4 s.aP.length d4) 27)) wr) (fun i _=>s.ai.length- (intOf i).toNat)
   case atStart=>exact ⟨0,by omega,rfl,lH.out⟩
   case round=>
    obtain⟨k,hk,rfl,hb0⟩:=hrel;have hb:Below w.heap.size w wr:=BW.out.trans (hb0.mono o_);have lH:=h_ hb0;obtain⟨pz,Bn⟩:=cT.out wr hb0;have p4:=pz.cell (j:=4) rfl;have q4:=Bn.cell (j:=4) rfl;clear pz Bn;by_cases hlt:k< s.ai.length
    ·obtain⟨b,o,ha,hcs⟩:=zE RL.out.1 hlt;obtain⟨b',o',ha',hcs'⟩:=zE RL.out.2 hlt;subst ha;subst ha';have hx:=hcs _ hb;have hy:=hcs' _ hb;have zZ:=fun w=>NL.out s.ai[k] s.ai[k] w
     rw[decide_eq_true rfl]at zZ;generalize s.ai[k]=x at hx hy zZ;exact Sc
    ·obtain rfl:k= s.ai.length:=o_;skip;go_wp2;go_loopw [7] (fun i wr=>∃k: Nat,k≤s.cd.length∧ i= .int .i64 k∧Below (w.heap.size+2) ((w.alloc (.cells (aw term ag next a1 s.ax.length c1 a2 s.ai.length c2 a3 s.cd.length c3 a4 s.aP.length c4) 27)).alloc (.cells (aw term ag next b1 s.ax.length d1 b2 s.ai.length d2 b3 s.cd.length d3 b4 s.aP.length d4) 27)) wr) (fun i _=>s.cd.length- (intOf i).toNat)
     case atStart=>exact ⟨0,by omega,rfl,lH.out⟩
     case round=>
      obtain⟨k,hk,rfl,hb0⟩:=hrel;have hb:Below w.heap.size w wr:=BW.out.trans (hb0.mono o_);have lH:=h_ hb0;obtain⟨pz,Bn⟩:=cT.out wr hb0;have p5:=pz.cell (j:=5) rfl;have q5:=Bn.cell (j:=5) rfl;clear pz Bn;by_cases hlt:k< s.cd.length
      ·obtain⟨b,o,ha,hcs⟩:=ql RS.out.1 hlt;obtain⟨b',o',ha',hcs'⟩:=ql RS.out.2 hlt;subst ha;subst ha';have hx:=hcs _ hb;have hy:=hcs' _ hb;have zZ:=fun w=>NS.out s.cd[k] s.cd[k] w
       rw[decide_eq_true rfl]at zZ;generalize s.cd[k]=x at hx hy zZ;exact Sc
      ·obtain rfl:k= s.cd.length:=o_;skip;go_wp2;go_loopw [8] (fun i wr=>∃k: Nat,k≤s.aP.length∧ i= .int .i64 k∧Below (w.heap.size+2) ((w.alloc (.cells (aw term ag next a1 s.ax.length c1 a2 s.ai.length c2 a3 s.cd.length c3 a4 s.aP.length c4) 27)).alloc (.cells (aw term ag next b1 s.ax.length d1 b2 s.ai.length d2 b3 s.cd.length d3 b4 s.aP.length d4) 27)) wr) (fun i _=>s.aP.length- (intOf i).toNat)
       case atStart=>exact ⟨0,by omega,rfl,lH.out⟩
       case round=>
        obtain⟨k,hk,rfl,hb0⟩:=hrel;have hb:Below w.heap.size w wr:=BW.out.trans (hb0.mono o_);have lH:=h_ hb0;obtain⟨pz,Bn⟩:=cT.out wr hb0;have p6:=pz.cell (j:=6) rfl;have q6:=Bn.cell (j:=6) rfl;clear pz Bn;by_cases hlt:k< s.aP.length
        ·obtain⟨b,o,ha,hcs⟩:=JP RD.out.1 hlt;obtain⟨b',o',ha',hcs'⟩:=JP RD.out.2 hlt;subst ha;subst ha';have hx:=hcs _ hb;have hy:=hcs' _ hb;have zZ:=fun w=>ND.out s.aP[k] s.aP[k] w
         rw[decide_eq_true rfl]at zZ;generalize s.aP[k]=x at hx hy zZ;exact Sc
        ·obtain rfl:k= s.aP.length:=o_;skip;go_wp2;go_returns;exact⟨rfl,hb⟩
theorem A3(s:St)(r q:Raw)(B B':Nat)(w:World)(h:aX w B r s)(h':aX w B' q s)(cC:s.ax.length≤ 900)(hl2:s.ai.length≤ 900)(cS:s.cd.length≤ 900)(hl4:s.aP.length≤ 900):
 Calls Tryz.prog 13 #[r.agg,q.agg] w fun e w'=>e= .returned (.bool true)∧Below w.heap.size w w':=by
 have HS:=h_ (fun w' (hb:Below w.heap.size w w')=>Pd s r q B B' w' (h.below hb) (h'.below hb) cC hl2 cS hl4);obtain⟨term,ag,next,⟨a1,n1,c1⟩,⟨a2,n2,c2⟩,⟨a3,n3,c3⟩,⟨a4,n4,c4⟩⟩:=r;obtain⟨ml,jA,next',⟨b1,m1,d1⟩,⟨b2,m2,d2⟩,⟨b3,m3,d3⟩,⟨b4,m4,d4⟩⟩:=q;clear h h';go_enter Tryz.func13,Tryz.ntmps13;go_wp2_with(go_at_call 25;((with_reducible refine(HS.out _ aH).mono ?_);rintro e w3 ⟨rfl,hb3⟩));go_returns;exact⟨rfl,aH⟩
end Go.Proofs.YtfdmhpohfjbpfaaGreat
