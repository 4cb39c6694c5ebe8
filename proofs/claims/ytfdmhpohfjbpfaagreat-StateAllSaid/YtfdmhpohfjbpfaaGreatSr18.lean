import Derived.Test.YtfdmhpohfjbpfaaGreatSr17
set_option linter.unusedVariables false
set_option linter.unusedSimpArgs false
namespace Go.Proofs.YtfdmhpohfjbpfaaGreat
open Go.ChangeShapes Go.WideShapes Go.ChangeAt Go.RowKit
set_option maxRecDepth 100000
set_option maxHeartbeats 16000000
theorem Y8 {P:Prop}(h:P:=by
 rw[aT.length,List.length_nil]at h6;have h7:s.ax.length= 0:=by rcases Nat.mul_eq_zero.1 h6 with h3|h3;exact h3;cases h3
 exact h0 (List.eq_nil_of_length_eq_zero o_)):P:=h
theorem fe(s:St)(r:Raw)(B:Nat)(w:World)(h:aX w B r s)(hfit:Fits s.ai)(cC:s.ax.length≤ 900)(hl2:s.ai.length≤ 900)(hB:B≤ w.heap.size):
 Calls Tryz.prog 81 #[r.agg] w (mi w B (bG s)):=by
 obtain⟨term,ag,next,⟨a1,n1,c1⟩,⟨a2,n2,c2⟩,⟨a3,n3,c3⟩,⟨a4,n4,c4⟩⟩:=r;have HS:=h_ h;have Hp:=h_ (fun id w' (hb:Below w.heap.size w w')=>jT s.ai ⟨term,ag,next,⟨a1,n1,c1⟩,⟨a2,n2,c2⟩,⟨a3,n3,c3⟩,⟨a4,n4,c4⟩⟩ id w' h.cG.len o_ hfit (h.cG.row.below hb));have uz:=h_ (fun b m d w' (hb:Below w.heap.size w w') (hm:(je s.ai).length=m) (hro:Row w' b ((je s.ai).map (Value.int .i64)))=>Ey s.ax (je s.ai) a1 b n1 c1 m d w' h.cD.len hm cC (by rw[←hm,mB];omega) h.cD.nil h.cD.le (Row.below h.jV hb) hro);have Na:Hid (∀l,jB s.ax (je s.ai)=l→ bG s={s with ax:=l}):=fun l e=>by unfold bG;rw[e]
 have cT:Hid (∀w',Below (w.heap.size+2) ((w.alloc (.cells (aw term ag next a1 n1 c1 a2 n2 c2 a3 n3 c3 a4 n4 c4) 27)).alloc (.cells aS 27)) w'→
  aU w' w.heap.size (Raw.cells ⟨term,ag,next,⟨a1,n1,c1⟩,⟨a2,n2,c2⟩,⟨a3,n3,c3⟩,⟨a4,n4,c4⟩⟩)∧aU w' (w.heap.size+1) (Raw.cells ⟨0,0,0,⟨none,0,0⟩,⟨none,0,0⟩,⟨none,0,0⟩,⟨none,0,0⟩⟩)∧w.heap.size+ 2≤w'.heap.size):=
  fun w' hb0=>by
   have hb:Below ((w.alloc (.cells (aw term ag next a1 n1 c1 a2 n2 c2 a3 n3 c3 a4 n4 c4) 27)).alloc (.cells aS 27)).heap.size ((w.alloc (.cells (aw term ag next a1 n1 c1 a2 n2 c2 a3 n3 c3 a4 n4 c4) 27)).alloc (.cells aS 27)) w':=by rw[show((w.alloc (.cells (aw term ag next a1 n1 c1 a2 n2 c2 a3 n3 c3 a4 n4 c4) 27)).alloc (.cells aS 27)).heap.size=w.heap.size+ 2 from by simp];exact hb0
   exact⟨aU.aR (ah hb),aU.cn hb,by have:=hb.size;simp at this;omega⟩
 clear h hfit;go_enter Tryz.func81,Tryz.ntmps81;go_wp2;go_loopw [3,4] (fun l i wr=>∃k: Nat,∃a c,k≤16∧ i= .int .i64 ((k:Int)+1)∧l= .slice a k c∧Hid (wr.ownsRow (w.heap.size+2) 3 1 (.slice a k c) k ((C0 s.ai k).map (Value.int .i64)))∧Below (w.heap.size+2) ((w.alloc (.cells (aw term ag next a1 n1 c1 a2 n2 c2 a3 n3 c3 a4 n4 c4) 27)).alloc (.cells aS 27)) wr) (fun _ i _=>17- (intOf i).toNat)
 case atStart=>exact ⟨0,none,0,by omega,rfl,rfl,World.ownsRow_nil _ _ _ _,Below.refl _ _⟩
 case round=>
  obtain⟨k,a,c,hk,rfl,rfl,hown,hb0⟩:=hrel;have hb:Below w.heap.size w wr:=((show Below w.heap.size w ((w.alloc (.cells (aw term ag next a1 n1 c1 a2 n2 c2 a3 n3 c3 a4 n4 c4) 27)).alloc (.cells aS 27))from aH)).trans (hb0.mono o_);have nR:=h_ (cT wr hb0);have hsz:=nR.2.2;have lH:=h_ hb0;by_cases hlt:k< 16
  ·have hlt':((k:Int)+1≤ 16):=o_;have qE:=h_ (AB s.ai k);have Dv:=h_ (Hp ((k:Int)+1));generalize bV s.ai ((k:Int)+1)=z at qE Dv;go_wp2_with(first|(refine aa aG rfl (.tmp 1) rfl w.heap.size 0 rfl ⟨term,ag,next,⟨a1,n1,c1⟩,⟨a2,n2,c2⟩,⟨a3,n3,c3⟩,⟨a4,n4,c4⟩⟩ (.agg (aw term ag next a1 n1 c1 a2 n2 c2 a3 n3 c3 a4 n4 c4)) rfl nR.1.range ?_)|(go_at_call 31;((with_reducible refine(Dv.out wr hb).mono ?_);rintro e w3 ⟨rfl,hb3⟩;have U7:=hb3.size;have HW3:=h_ (yU hown.out (cx.below hb3 n_:cx 0 wr.heap.size wr w3) (Nat.zero_le _) n_);have kX:=h_ (lH.trans (hb3.mono o_))))|(at_builtin;refine eX JW rfl _ _ rfl (w.heap.size+2) _ k _ rfl (HW3.alloc _) (some ⟨w3.heap.size,0,none⟩) 1 1 [.int .i64 z] rfl rfl (Row.new _ _ _ _) (by intro u hu;simp at hu;subst hu;rfl) o_ (by simp;omega) ?_;intro Wh QS w4 eG hg4;have hb4:=Below.app (kX.alloc o_ _) (HW3.alloc _) hg4 (by simp;omega);have Dw:=h_ eG;have og:=h_ hb4;clear hg4 eG hb4));go_roundw
   case rel=>exact ⟨k+1,Wh,QS,by omega,by go_num,rfl,by show World.ownsRow _ _ _ _ _ _ _;rw[qE.out,List.map_append];exact Dw.out,og.out⟩
   case measure=>simp [intOf];omega
  ·obtain rfl:k= 16:=o_;have k3:=nR.1.cell (j:=3) rfl;obtain⟨l,hl⟩:∃l,jB s.ax (je s.ai)=l:= ⟨_,rfl⟩;have HL:=h_ hl;clear hl;go_wp2_with(first|(go_at_call 140;((with_reducible refine(uz.out a 16 c wr hb (mB _) (by rw[←C5];exact jO hown.out)).mono ?_);rw[HL.out];rintro e w5 ⟨x1,y1,rfl,Oq,FU,zX,FX,cv⟩;have K5:=h_ (And.intro Oq (And.intro FU FX));have hN5:=h_ zX;clear Oq FU zX FX;have pC:=h_ (nR.1.next (by simp) cv);have xZ:=h_ (nR.2.1.next (by simp) cv);have q5:=cv.size;clear k3))|(refine bE rfl (.tmp 21) (.tmp 20) rfl cF.2.1 w.heap.size 3 _ (.slice x1 l.length y1) rfl rfl rfl rfl pC.out (by simp) ?_;intro w6 N9 kJ;have nQ:Hid (aU w6 w.heap.size (Raw.cells ⟨term,ag,next,⟨x1,l.length,y1⟩,⟨a2,n2,c2⟩,⟨a3,n3,c3⟩,⟨a4,n4,c4⟩⟩)):=N9;have vR:=h_ kJ;have Bz:=h_ (xZ.wrote kJ o_);have q6:=kJ.size;clear N9 kJ)|(refine aa aG rfl (.tmp 1) rfl w.heap.size 0 rfl ⟨term,ag,next,⟨x1,l.length,y1⟩,⟨a2,n2,c2⟩,⟨a3,n3,c3⟩,⟨a4,n4,c4⟩⟩ (.agg (aw term ag next x1 l.length y1 a2 n2 c2 a3 n3 c3 a4 n4 c4)) rfl nQ.range ?_)|(refine av aG rfl (.tmp 2) (.tmp 22) rfl (w.heap.size+1) ⟨term,ag,next,⟨x1,l.length,y1⟩,⟨a2,n2,c2⟩,⟨a3,n3,c3⟩,⟨a4,n4,c4⟩⟩ _ rfl rfl Bz.out rfl ?_;intro w7 zT eO;have gX:=h_ zT;have E3:=h_ eO;clear zT eO));have b5:Below w.heap.size w w5:=hb.trans (cv.mono o_);have b7:Below w.heap.size w w7:=(b5.trans (vR.below _ n_)).trans (E3.below _ o_);obtain⟨k0,k1,k2,k3,k4,k5,k6⟩:=bP gX.range;refine bodyPost_ret (v:= .agg (aw term ag next x1 l.length y1 a2 n2 c2 a3 n3 c3 a4 n4 c4)) (by simp[results,Tryz.results81,go_sem,k0,k1,k2,k3,k4,k5,k6]) rfl ?_;have i7:=(HS.below b7);refine⟨⟨term,ag,next,⟨x1,l.length,y1⟩,⟨a2,n2,c2⟩,⟨a3,n3,c3⟩,⟨a4,n4,c4⟩⟩,rfl,?_,b7⟩;rw[Na.out l HL.out];refine⟨i7.term,i7.ag,i7.next,⟨rfl,K5.1,K5.2.1,HS.cD.eZ.trans (hN5.out.mono o_),?_⟩,i7.cG,i7.eY,i7.ft⟩;have sL:bF aT w5 x1 l:=K5.2.2;by_cases h0:l= []
   ·rw[h0];exact .inl rfl
   ·have hpos:l.flatMap aT.cells≠[]:=by
     intro h1;have h2:=congrArg List.length h1;rw[aT.length,List.length_nil]at h2;rcases Nat.mul_eq_zero.1 h2 with h3|h3
     ·exact h0 (List.eq_nil_of_length_eq_zero h3)
     ·cases h3
    rcases sL with h|⟨b,o,ha,hc⟩
    ·exact absurd h hpos
    ·have hlen:l.length≤ s.ax.length:=by rw[←HL.out];exact sY _ _
     have hne:b≠ w.heap.size∧b≠ w.heap.size+1:= by
      rcases hN5.out b o none ha with h1|⟨o',q',h1⟩
      ·omega
      ·have h2:b< w.heap.size:=by
        have h4:=HS.cD.row;rw[show(Raw.cD ⟨term,ag,next,⟨a1,n1,c1⟩,⟨a2,n2,c2⟩,⟨a3,n3,c3⟩,⟨a4,n4,c4⟩⟩).a=a1 from rfl,h1]at h4;rcases h4 with h5|⟨b2,o2,e2,_⟩
        ·exfalso
         have h6:=congrArg List.length h5;exact Y8
        ·rw[e2]at h1;have h8:=HS.cD.row;simp only[Option.some.injEq,Addr.mk.injEq]at e2;obtain⟨rfl,rfl,rfl⟩:=e2;simp only at h8;rw[show a1=some ⟨b,o',none⟩from by assumption]at h8;refine Row.lt h8 ?_;intro h6;have h6:=congrArg List.length h6;exact Y8
       omega
     exact .inr ⟨b,o,ha,fun i hi=>by rw[World.cell?_of_block (w:=w5) ((E3.bY b hne.2).trans (vR.bY b hne.1))];exact hc i hi⟩
def Ut(w:World)(s:St)(e:Int)(x:Ending)(w':World):Prop:= ∃q,x= .returned (.tuple #[Raw.agg q,(bS.err e).agg])∧aX w' w.heap.size q s∧Below w.heap.size w w'
theorem na(s:St)(r:Raw)(B:Nat)(e:Int)(w:World)(h:aX w B r s)(cC:s.ax.length≤ 900)(hl2:s.ai.length≤ 900)(cS:s.cd.length≤ 900)(hl4:s.aP.length≤ 900)(hok:cp s=true):
 Calls Tryz.prog 147 #[r.agg,.int .i64 e] w (Ut w (bG s) e):=by
 have HS:=h_ h;have fZ:=h_ (fun w' (hb:Below w.heap.size w w')=>cY s r B w' (h.below hb) cC hl2);have mq:=h_ (fun w' (hb:Below w.heap.size w w')=>eJ s r B w' (h.below hb) cC hl2 cS hl4)
 have uz:=h_ (fun(hok:cp s=true) q B' w' (h':aX w' B' q s) (hB':B'≤ w'.heap.size)=>fe s q B' w' h' (by
  have h0:=hok;unfold cp at h0;simp only[Bool.and_eq_true]at h0
  exact bU h0.1.1 h0.1.2.1) cC hl2 hB')
 obtain⟨term,ag,next,⟨a1,n1,c1⟩,⟨a2,n2,c2⟩,⟨a3,n3,c3⟩,⟨a4,n4,c4⟩⟩:=r
 have cT:Hid (∀w',Below (((w.alloc (.cells (aw term ag next a1 n1 c1 a2 n2 c2 a3 n3 c3 a4 n4 c4) 27)).alloc (.cells aS 27)).alloc (.cells dB 40)).heap.size (((w.alloc (.cells (aw term ag next a1 n1 c1 a2 n2 c2 a3 n3 c3 a4 n4 c4) 27)).alloc (.cells aS 27)).alloc (.cells dB 40)) w'→
  aU w' w.heap.size (Raw.cells ⟨term,ag,next,⟨a1,n1,c1⟩,⟨a2,n2,c2⟩,⟨a3,n3,c3⟩,⟨a4,n4,c4⟩⟩)∧aU w' (w.heap.size+1) (Raw.cells ⟨0,0,0,⟨none,0,0⟩,⟨none,0,0⟩,⟨none,0,0⟩,⟨none,0,0⟩⟩)∧aU w' (w.heap.size+1+ 1) (bS.cells ⟨0,0,0,0,0⟩)∧w.heap.size+ 3≤w'.heap.size):=
  fun w' hb=>⟨aU.aR (ah (ah hb)),aU.cn (ah hb),aU.dR hb,by have:=hb.size;simp at this;omega⟩
 clear h cC hl2 cS hl4;have fT:=h_ hok;clear hok;go_enter Tryz.func147,Tryz.ntmps147;go_wp2_with(first|(refine aa aG rfl (.tmp 2) rfl w.heap.size 0 rfl ⟨term,ag,next,⟨a1,n1,c1⟩,⟨a2,n2,c2⟩,⟨a3,n3,c3⟩,⟨a4,n4,c4⟩⟩ (.agg (aw term ag next a1 n1 c1 a2 n2 c2 a3 n3 c3 a4 n4 c4)) rfl (by first|exact jx.1.range|exact (cT _ aH).1.range) ?_)|(go_at_call 26;((with_reducible refine(fZ.out _ aH).mono ?_);rw[fT.out];rintro e w3 ⟨rfl,hb3⟩;have jx:=h_ (cT w3 aH)))|(go_at_call 23;((with_reducible refine(mq.out _ aH).mono ?_);rintro e w4 ⟨⟨t4,s4,mj,⟨x1,m1,y1⟩,⟨x2,m2,y2⟩,⟨x3,m3,y3⟩,⟨x4,m4,y4⟩⟩,rfl,fA,hb4⟩;have iB:=h_ fA;clear fA))|(go_at_call 81;have hsw:=uz.out fT.out _ _ w4 iB.is hb4.size;((with_reducible refine hsw.mono ?_);clear hsw;rintro e w5 ⟨⟨t5,s5,OT,⟨z1,o1,v1⟩,⟨z2,o2,v2⟩,⟨z3,o3,v3⟩,⟨z4,o4,v4⟩⟩,rfl,YI,cv⟩;have jD:=h_ YI;have pC:=h_ (cT w5 aH);clear YI))|(refine av aG rfl (.tmp 4) (.tmp 14) rfl (w.heap.size+1) ⟨t5,s5,OT,⟨z1,o1,v1⟩,⟨z2,o2,v2⟩,⟨z3,o3,v3⟩,⟨z4,o4,v4⟩⟩ _ rfl rfl pC.2.1 rfl ?_;intro w8 eD fH;have iY:=h_ eD;have iT:=h_ fH;have uu:=h_ (pC.2.2.1.wrote fH o_);clear eD fH)|(refine av bA rfl (.tmp 5) (.tmp 16) rfl (w.heap.size+1+ 1) ⟨e,0,0,0,0⟩ _ rfl rfl uu.out rfl ?_;intro w9 eQ fo;have yE:=h_ eQ;have lZ:=h_ fo;have pq:=h_ (iY.wrote fo o_);clear eQ fo));have b3:Below w.heap.size w w3:=aH;have q3:=jx.2.2.2;have q4:=hb4.size;have q5:=cv.size;have b9:Below w.heap.size w w9:=(((b3.trans (hb4.mono o_)).trans (cv.mono o_)).trans (iT.below _ o_)).trans (lZ.below _ o_);have m59:cx w3.heap.size w5.heap.size w5 w9:=((cx.refl w3.heap.size w5.heap.size w5).wrote iT.out (.inl o_)).wrote lZ.out (.inl o_);obtain⟨k0,k1,k2,k3,k4,k5,k6⟩:=bP pq.range;obtain⟨j0,j1,j2,j3,j4⟩:=oK yE.range;refine bodyPost_ret (v:= .tuple #[.agg (aw t5 s5 OT z1 o1 v1 z2 o2 v2 z3 o3 v3 z4 o4 v4),.agg (mh e 0 0 0 0)]) (by simp[results,Tryz.results147,go_sem,k0,k1,k2,k3,k4,k5,k6,j0,j1,j2,j3,j4]) rfl ?_;exact⟨⟨t5,s5,OT,⟨z1,o1,v1⟩,⟨z2,o2,v2⟩,⟨z3,o3,v3⟩,⟨z4,o4,v4⟩⟩,rfl,(jD.eH m59 n_ n_).mono o_,b9⟩
theorem kM{BB:Nat}{w w':World}{tmps:Array Value}{res:St× bS}{r9:Raw}{a:bS}(h12:tmps[12]? =some (.pointer (some ⟨w.heap.size+1,0,none⟩)))(JY:tmps[13]? =some (.pointer (some ⟨w.heap.size+1+ 1,0,none⟩)))(hx:aU w' (w.heap.size+1) (Raw.cells r9))(ha:aU w' (w.heap.size+1+ 1) (bS.cells a))(hs:aX w' BB r9 res.1)(he:res.2= a)(hb:Below w.heap.size w w'):
 ∃v,(results Tryz.f88 tmps).run Tryz.prog w'= .ok v w'∧iC BB w res (.returned v) w':=by
 obtain⟨k0,k1,k2,k3,k4,k5,k6⟩:=bP hx.range;obtain⟨j0,j1,j2,j3,j4⟩:=oK ha.range;have g12:tmps[12]! = .pointer (some ⟨w.heap.size+1,0,none⟩):=by rw[getElem!_def,h12]
 have g13:tmps[13]! = .pointer (some ⟨w.heap.size+1+ 1,0,none⟩):=by rw[getElem!_def,JY]
 refine⟨.tuple #[r9.agg,a.agg],?_,r9,by rw[he],hs,hb⟩;simp[results,Tryz.results88,go_sem,g12,g13,h12,JY,k0,k1,k2,k3,k4,k5,k6,j0,j1,j2,j3,j4]
theorem Mm {P:Prop}(h:P:=by
 have HS:=h_ h;have HL:=h_ (And.intro cC (And.intro hl2 (And.intro cS hl4)));have fZ:=h_ (fun w' (hb:Below w.heap.size w w')=>cY s r B w' (h.below hb) cC hl2);have fT:=h_ hok;have nB:=h_ (fun w' (hb:Below w.heap.size w w')=>dS s.ax r.cD.a r.cD.n r.cD.c te w' h.cD.len (bD o_) (Row.below h.jV hb));have My:=h_ (fun w' (hb:Below w.heap.size w w')=>na s r B 2 w' (h.below hb) cC hl2 cS hl4 hok);obtain⟨term,ag,next,⟨a1,n1,c1⟩,⟨a2,n2,c2⟩,⟨a3,n3,c3⟩,⟨a4,n4,c4⟩⟩:=r;obtain rfl:next= s.next:=h.next;obtain rfl:s.ai.length= n2:=h.cG.len
 have cT:Hid (∀w',Below (((w.alloc (.cells (aw term ag s.next a1 n1 c1 a2 s.ai.length c2 a3 n3 c3 a4 n4 c4) 27)).alloc (.cells aS 27)).alloc (.cells dB 40)).heap.size (((w.alloc (.cells (aw term ag s.next a1 n1 c1 a2 s.ai.length c2 a3 n3 c3 a4 n4 c4) 27)).alloc (.cells aS 27)).alloc (.cells dB 40)) w'→
  aU w' w.heap.size (Raw.cells ⟨term,ag,s.next,⟨a1,n1,c1⟩,⟨a2,s.ai.length,c2⟩,⟨a3,n3,c3⟩,⟨a4,n4,c4⟩⟩)∧aU w' (w.heap.size+1) (Raw.cells ⟨0,0,0,⟨none,0,0⟩,⟨none,0,0⟩,⟨none,0,0⟩,⟨none,0,0⟩⟩)∧aU w' (w.heap.size+1+ 1) (bS.cells ⟨0,0,0,0,0⟩)∧w.heap.size+ 3≤w'.heap.size):=
  fun w' hb=>⟨aU.aR (ah (ah hb)),aU.cn (ah hb),aU.dR hb,by have:=hb.size;simp at this;omega⟩
 clear h cC hl2 cS hl4 hok;go_enter Tryz.func88,Tryz.ntmps88;go_wp2_with(first|(have dm:=uu;clear dm;refine av bA rfl (.tmp 13) (.tmp 49) rfl (w.heap.size+1+ 1) ⟨2,0,0,0,0⟩ _ rfl rfl uu.out rfl ?_;intro w9 eQ fo;have yE:=h_ eQ;have lZ:=h_ fo;have pq:=h_ (iY.wrote fo o_);clear eQ fo)|(have dm:=cL;clear dm;refine av aG rfl (.tmp 12) (.tmp 48) rfl (w.heap.size+1) q _ rfl rfl (cT w7 aH).2.1 rfl ?_;intro w8 eD fH;have iY:=h_ eD;have iT:=h_ fH;have uu:=h_ ((cT w7 aH).2.2.1.wrote fH o_);clear eD fH)|(go_at_call 147;((with_reducible refine(My.out _ aH).mono ?_);rintro e w7 ⟨q,rfl,ly,cL⟩;have gv:=h_ ly;clear ly))|(go_at_call 26;((with_reducible refine(fZ.out _ aH).mono ?_);rw[fT.out];rintro e w3 ⟨rfl,hb3⟩))|(refine aa aG rfl (.tmp 6) rfl w.heap.size 0 rfl ⟨term,ag,s.next,⟨a1,n1,c1⟩,⟨a2,s.ai.length,c2⟩,⟨a3,n3,c3⟩,⟨a4,n4,c4⟩⟩ (.agg (aw term ag s.next a1 n1 c1 a2 s.ai.length c2 a3 n3 c3 a4 n4 c4)) rfl (cT _ aH).1.range ?_));have q7:=(cT w7 aH).2.2.2;have qq:=(cT w3 aH).2.2.2;have b7:Below w.heap.size w w7:=aH;have Ux:Below w.heap.size w w9:=(b7.trans (iT.below _ o_)).trans (lZ.below _ o_);have Jc:=((cx.refl w3.heap.size w7.heap.size w7).wrote iT.out (.inl o_)).wrote lZ.out (.inl o_)
 exact⟨rfl,kM (r9:=q) (a:=⟨2,0,0,0,0⟩) rfl rfl pq.out yE.out ((gv.eH Jc n_ n_).mono o_) rfl Ux⟩):P:=h
theorem Ch(s:St)(r:Raw)(B:Nat)(sh ep nu te sz:Int)(w:World)(h:aX w B r s)(hl1':s.ax.length≤ 800)(hl2:s.ai.length≤ 900)(cS:s.cd.length≤ 900)(hl4:s.aP.length≤ 900)(hok:cp s=true)(g1:sh< 1):
 Calls Tryz.prog 88 #[r.agg,.int .i64 sh,.int .i64 ep,.int .i64 nu,.int .i64 te,.int .i64 sz] w (iC w.heap.size w (bG s,bS.err 2)):=by
 have cC:s.ax.length≤ 900:=o_;exact Mm
theorem Ci(s:St)(r:Raw)(B:Nat)(sh ep nu te sz:Int)(w:World)(h:aX w B r s)(hl1':s.ax.length≤ 800)(hl2:s.ai.length≤ 900)(cS:s.cd.length≤ 900)(hl4:s.aP.length≤ 900)(hok:cp s=true)(g1:1≤ sh)(g2:8< sh):
 Calls Tryz.prog 88 #[r.agg,.int .i64 sh,.int .i64 ep,.int .i64 nu,.int .i64 te,.int .i64 sz] w (iC w.heap.size w (bG s,bS.err 2)):=by
 have cC:s.ax.length≤ 900:=o_;exact Mm
theorem Cj(s:St)(r:Raw)(B:Nat)(sh ep nu te sz:Int)(w:World)(h:aX w B r s)(hl1':s.ax.length≤ 800)(hl2:s.ai.length≤ 900)(cS:s.cd.length≤ 900)(hl4:s.aP.length≤ 900)(hok:cp s=true)(g1:1≤ sh)(g2:sh≤ 8)(g3:ep< 1):
 Calls Tryz.prog 88 #[r.agg,.int .i64 sh,.int .i64 ep,.int .i64 nu,.int .i64 te,.int .i64 sz] w (iC w.heap.size w (bG s,bS.err 2)):=by
 have cC:s.ax.length≤ 900:=o_;exact Mm
theorem Ck(s:St)(r:Raw)(B:Nat)(sh ep nu te sz:Int)(w:World)(h:aX w B r s)(hl1':s.ax.length≤ 800)(hl2:s.ai.length≤ 900)(cS:s.cd.length≤ 900)(hl4:s.aP.length≤ 900)(hok:cp s=true)(g1:1≤ sh)(g2:sh≤ 8)(g3:1≤ ep)(g4:nu< 1):
 Calls Tryz.prog 88 #[r.agg,.int .i64 sh,.int .i64 ep,.int .i64 nu,.int .i64 te,.int .i64 sz] w (iC w.heap.size w (bG s,bS.err 2)):=by
 have cC:s.ax.length≤ 900:=o_;exact Mm
theorem Cl(s:St)(r:Raw)(B:Nat)(sh ep nu te sz:Int)(w:World)(h:aX w B r s)(hl1':s.ax.length≤ 800)(hl2:s.ai.length≤ 900)(cS:s.cd.length≤ 900)(hl4:s.aP.length≤ 900)(hok:cp s=true)(g1:1≤ sh)(g2:sh≤ 8)(g3:1≤ ep)(g4:1≤ nu)(g5:sz< 1):
 Calls Tryz.prog 88 #[r.agg,.int .i64 sh,.int .i64 ep,.int .i64 nu,.int .i64 te,.int .i64 sz] w (iC w.heap.size w (bG s,bS.err 2)):=by
 have cC:s.ax.length≤ 900:=o_;exact Mm
theorem Cm(s:St)(r:Raw)(B:Nat)(sh ep nu te sz:Int)(w:World)(h:aX w B r s)(hl1':s.ax.length≤ 800)(hl2:s.ai.length≤ 900)(cS:s.cd.length≤ 900)(hl4:s.aP.length≤ 900)(hok:cp s=true)(g1:1≤ sh)(g2:sh≤ 8)(g3:1≤ ep)(g4:1≤ nu)(g5:1≤ sz)(g6:1000000< sz):
 Calls Tryz.prog 88 #[r.agg,.int .i64 sh,.int .i64 ep,.int .i64 nu,.int .i64 te,.int .i64 sz] w (iC w.heap.size w (bG s,bS.err 2)):=by
 have cC:s.ax.length≤ 900:=o_;exact Mm
section
variable {P:Program} {e:TypeId} {α:Type} {L:iW P e α}
theorem bF.xH{w w':World}{a:Option Addr}{xs:List α}{g:Nat}(h:bF L w a xs)(hn:∀b o s,a=some ⟨b,o,s⟩→b≠ g)(hk:∀k,k≠g→ w'.heap[k]? =w.heap[k]?):bF L w' a xs:=
 h.bY (g:=g) (fun k _ hne=>hk k hne) hn
theorem bF.block{w7:World}{a:Option Addr}{xs:List α}(h7:bF L w7 a xs)(h0:xs≠ []){b o:Nat}{s:Option Nat}(hs:a= some ⟨b,o,s⟩):b< w7.heap.size:=by
 have hc0:xs.flatMap L.cells≠[]:=by
  intro h1;have h2:=congrArg List.length h1;rw[L.length,List.length_nil,Nat.mul_eq_zero]at h2;have:=L.pos;have:0< xs.length:=List.length_pos_iff.2 h0;omega
 rcases h7 with h|⟨b',o',rfl,hc⟩
 ·exact absurd h hc0
 ·have hlt:=Row.lt (.inr ⟨b',o',rfl,hc⟩) hc0;cases hs
  exact hlt
theorem bF.xI{w7 w w':World}{a:Option Addr}{xs:List α}{g:Nat}(h:bF L w a xs)(h7:bF L w7 a xs)(hg:w7.heap.size≤ g)(hk:∀k,k≠g→ w'.heap[k]? =w.heap[k]?):bF L w' a xs:=by
 by_cases h0:xs= []
 ·subst h0;exact .inl rfl
 ·exact h.xH (fun b o s hs=>by have:=h7.block h0 hs;omega) hk
end
theorem gI.xI{w7 w w':World}{B:Nat}{s:sH}{xs:List bR}{g:Nat}(h:gI w B s xs)(h7:gI w7 B s xs)(hg:w7.heap.size≤ g)(hk:∀k,k≠g→ w'.heap[k]? =w.heap[k]?)(hs:w.heap.size≤ w'.heap.size):gI w' B s xs:=
 h.same ⟨h.len,h.le,h.nil,h.eZ,h.row.xI h7.row hg hk⟩ hs fun g' h0 ha _ h1=>hk g' (by have:=h7.lt h0 _ _ _ ha;omega)
theorem Lv{w7 w9 fg fx xf kS:World}{B g:Nat}{t4 s4 n4 nx:Int}{x1 x2 x3 x4 xa xb:Option Addr}{m1 y1 m2 y2 m3 y3 m4 y4 ya yb:Nat}{s:St}{ts:List aj}{l:aV}{o:Obj}{r:Raw}(h7:mN w7 B ⟨t4,s4,n4,⟨x1,m1,y1⟩,⟨x2,m2,y2⟩,⟨x3,m3,y3⟩,⟨x4,m4,y4⟩⟩ s)(hB:B≤ w7.heap.size)(hne:s.ax≠ [])(hg:w7.heap.size= g)(m9:cx B w7.heap.size w7 w9)(hle:ts.length≤ ya)(hnil:xa= none→ya= 0)(cE:cg (w7.heap.size+1) x1 xa)(hrow:dK w9 xa ts)(kv:dt g w9 fg)(tV:(fg.alloc o).grownBy fx (Value.slice x2 m2 y2).ownBlock)(hown:fx.ownsRow B 59 7 (.slice xb (m2+1) yb) (m2+1) (s.ai.flatMap aJ.cells++aJ.cells l))(fI:aU fx g r.cells)(ny:dt g fx xf)(nz:dt g xf kS):
 aX kS B ⟨t4,s4,nx,⟨xa,ts.length,ya⟩,⟨xb,m2+1,yb⟩,⟨x3,m3,y3⟩,⟨x4,m4,y4⟩⟩ {s with ax:=ts,ai:=s.ai++ [l],next:=nx}:=by
 have hxg:∀b q o,xa=some ⟨b,q,o⟩→b≠ g:=fun b q o ha=>by
  rcases cE b q o ha with h1|⟨q',o',h1⟩
  ·omega
  ·have:=bF.block (L:=aT) (w7:=w7) h7.is.cD.row hne h1;omega
 have m10:cx B w7.heap.size w7 fg:=m9.wrote kv (.inr o_);have h10:=h7.eH m10 n_ n_;have t10:cK aT fg B ⟨xa,ts.length,ya⟩ ts:=⟨rfl,hle,hnil,yR cE h7.is.cD.eZ o_,bF.xH (L:=aT) hrow hxg kv.bY⟩;have xB:Below fg.heap.size fg (fg.alloc o):=b_.alloc n_ o;have pz:∀b q o,xa=some ⟨b,q,o⟩→some b≠(Value.slice x2 m2 y2).ownBlock:=fun b q o ha=>by
  rcases cE b q o ha with h1|⟨q',o',h1⟩
  ·intro e;cases x2 with
   |none=> simp[Value.ownBlock]at e
   |some ad=>
    obtain⟨y,u,v⟩:=ad;simp[Value.ownBlock]at e;have h2:y< w7.heap.size:=h7.lt y u v rfl;omega
  ·exact vX h7.tl.symm b q' o' h1
 have t11:=(t10.below xB).grown tV pz;have Vs:=(h10.is.eY.below xB).grown tV (vX h7.ls);have d11:=(h10.is.ft.below xB).grown tV (vX h7.ld);have iX:s.ai.length= m2:=h7.is.cG.len;obtain⟨a',c',hv,hc1,hc2,hc3⟩:=eN hown;simp only[Value.slice.injEq]at hv;obtain⟨rfl,_,rfl⟩:=hv;have Yz:Row fx xb (s.ai.flatMap aJ.cells++aJ.cells l):=jO hown
 obtain⟨gx,hx0,-,-⟩:=iM hown (by
  intro h1;have h2:=congrArg List.length h1;rw[List.length_append,aJ.len,List.length_nil]at h2;have:=aJ.pos
  omega)
 have Bn:∀b q o,xb=some ⟨b,q,o⟩→b≠ g:=fun b q o hb e=>by
  rw[hx0]at hb;simp only[Option.some.injEq,Addr.mk.injEq]at hb;obtain⟨rfl,-,-⟩:=hb;subst e;rcases Yz with h1|⟨b',o',hb',hc⟩
  ·have h2:=congrArg List.length h1;rw[List.length_append,aJ.len,List.length_nil]at h2;have:=aJ.pos;omega
  ·rw[hx0]at hb';simp only[Option.some.injEq,Addr.mk.injEq]at hb';obtain⟨rfl,rfl,-⟩:=hb';have h3:=fI.cell (j:=3) rfl;have hlen:3< (s.ai.flatMap aJ.cells++aJ.cells l).length:=by
    rw[List.length_append,aJ.len];show 3<_+ 7
    omega
   have h4:=hc 3 hlen;rw[Nat.zero_add,h3]at h4;have h5:(s.ai.flatMap aJ.cells++aJ.cells l)[3]? =some (Value.slice r.cD.a r.cD.n r.cD.c):=by rw[List.getElem?_eq_getElem hlen,←h4]
   clear h4;cases hs:s.ai with
   |nil=> rw[hs]at h5;cases h5
   |cons y ys=>rw [hs]at h5;cases h5
 have tY:=cg.own (src:=none) hown n_
 have Vg:cK aJ fx B ⟨xb,m2+1,yb⟩ (s.ai++[l]):=⟨by simp[iX],hc1,hc3,tY,by
  show Row fx xb ((s.ai++[l]).flatMap aJ.cells)
  rw[List.flatMap_append];simpa using Yz⟩
 have ZX:w7.heap.size≤ g:=o_
 exact⟨h7.is.term,h7.is.ag,rfl,
  ⟨t11.len,t11.le,t11.nil,t11.eZ,(t11.row.xH hxg ny.bY).xH hxg nz.bY⟩,
  ⟨Vg.len,Vg.le,Vg.nil,Vg.eZ,(Vg.row.xH Bn ny.bY).xH Bn nz.bY⟩,
  ⟨Vs.len,Vs.le,Vs.nil,Vs.eZ,(Vs.row.xI h7.is.eY.row ZX ny.bY).xI h7.is.eY.row ZX nz.bY⟩,
  (d11.xI h7.is.ft ZX ny.bY (by have:=ny.size;omega)).xI h7.is.ft ZX nz.bY (by have:=nz.size;omega)⟩
theorem Jz{w nJ vG:World}{g:Nat}{c1 c2:List Value}{F:World→ Prop}(RG:aU nJ (g+1) c1∧dt (g+1) w nJ)(O5:aU vG (g+1+ 1) c2∧dt (g+1+ 1) nJ vG)(hq:∀w',aU w' (g+1) c1→aU w' (g+1+ 1) c2→w'.heap.size= w.heap.size→(∀k,k≠g+ 1→k≠ g+1+ 1→w'.heap[k]? =w.heap[k]?)→(∀B,B≤g+ 1→Below B w w')→F w'):F vG:=
 hq _ (RG.1.wrote O5.2 o_) O5.1 (O5.2.size.trans RG.2.size) (fun k e1 e2=>(O5.2.bY k e2).trans (RG.2.bY k e1)) (fun B hB=>(RG.2.below B hB).trans (O5.2.below B o_))
end Go.Proofs.YtfdmhpohfjbpfaaGreat
