import Derived.Test.YtfdmhpohfjbpfaaGreatSr05
set_option linter.unusedVariables false
set_option linter.unusedSimpArgs false
namespace Go.Proofs.YtfdmhpohfjbpfaaGreat
open Go.ChangeShapes Go.WideShapes Go.ChangeAt Go.RowKit
set_option maxRecDepth 100000
set_option maxHeartbeats 16000000
def Uu(w:World)(B:Nat)(a:Option Addr)(c:Nat)(l:List aV)(e:Ending)(w':World):Prop:=
 ∃g,e= .returned (.slice a l.length c)∧bF aJ w' a l∧dF g w w'∧B≤ g∧((∃o q,a=some ⟨g,o,q⟩)∨g= w.heap.size)
theorem Ik(ls:List aV)(B:Nat)(a:Option Addr)(n c:Nat)(cM:FuncId)(cap:Array Value)(p:aV→ Bool)(w:World)(h:cK aJ w B ⟨a,n,c⟩ ls)(ho:fQ aJ w B ⟨a,n,c⟩ ls)(hB:B≤ w.heap.size)(hl:ls.length≤ 900)(qp:∀(args:Array Value) (w:World),(callFunc cM args).run Tryz.prog w= .ok (.enter cM args) w)(hf:∀x∈ ls,∀w',(∀k,k<B→ w'.heap[k]? =w.heap[k]?)→Calls Tryz.prog cM (#[aJ.val x]++cap) w' fun e w''=>e= .returned (.bool (p x))∧Below w'.heap.size w' w''):
 Calls Tryz.prog 129 #[.slice a n c,.func (.func cM) #[] cap] w (Uu w B a c (ls.filter fun x=> !p x)):=by
 obtain rfl:ls.length= n:=h.len;by_cases h0:ls= []
 ·subst h0;refine(wA a c cM cap w qp).mono fun e w' ⟨he,hb⟩=> ?_
  exact⟨w.heap.size,he,.inl rfl,.of hb,hB,.inr rfl⟩
 ·have hpos:0< ls.length:=List.length_pos_iff.2 h0;have hown:=ho.own hpos;obtain⟨g,rfl,hg,hcm⟩:=iM hown (by intro h1;have:=congrArg List.length h1;rw[aJ.length,List.length_nil,Nat.mul_eq_zero]at this;have:=aJ.pos;omega);have hm:=dM.pV (L:=aJ) hown;have hlt:=hm.lt h0;refine(BI ls B g ls.length c cM cap p w rfl h.le hcm hm hB qp (fun x hx w' hb'=>hf x hx w' (fun k hk=>hb'.block k o_ o_))).mono fun e w' ⟨he,hr,hb⟩=> ?_
  exact⟨g,he,hr,hb,hg,.inl ⟨0,none,rfl⟩⟩
theorem cK.apart{P:Program}{e:TypeId}{α:Type}{L:iW P e α}{w w':World}{B g:Nat}{a:Option Addr}{s:sH}{xs:List α}(h:cK L w B s xs)(hk:dF g w w')(hap:Ap a s.a)(hg:(∃o q,a=some ⟨g,o,q⟩)∨g= w.heap.size):cK L w' B s xs:=by
 refine⟨h.len,h.le,h.nil,h.eZ,?_⟩;by_cases h0:xs.flatMap L.cells=[]
 ·exact .inl h0
 ·rcases h.row with h1|⟨b,o,ha,hc⟩
  ·exact absurd h1 h0
  ·have hlt:=Row.lt (.inr ⟨b,o,rfl,hc⟩) h0;have hne:b≠ g:=by
    rcases hg with⟨o',q',e⟩|rfl
    ·exact fun e2=>hap g o' q' b o none e ha e2.symm
    ·omega
   exact .inr ⟨b,o,ha,fun i hi=>by rw[World.cell?_of_block (w:=w) (hk.block b hlt hne)];exact hc i hi⟩
theorem gI.apart{w w':World}{B g:Nat}{a:Option Addr}{s:sH}{xs:List bR}(h:gI w B s xs)(hk:dF g w w')(hap:Ap a s.a)(hg:(∃o q,a=some ⟨g,o,q⟩)∨g= w.heap.size):gI w' B s xs:=
 h.same (h.tocK.apart hk hap hg) hk.size fun g' _ ha _ h1=>hk.block g' h1 (by
  rcases hg with⟨o',q',e⟩|rfl
  ·exact fun e2=>hap g o' q' g' 0 none e ha e2.symm
  ·omega)
theorem mi.up{w w1 w':World}{s:St}{e:Ending}(h:mi w1 0 s e w')(hb:Below w.heap.size w w1):mi w 0 s e w':=let ⟨r,h1,h2,h3⟩:=h;⟨r,h1,h2,hb.trans (h3.mono hb.size)⟩
theorem Vq{w w':World}{a:Option Addr}{xs:List Value}(h:Row w a xs)(hk:∀k,k<w.heap.size→ w'.heap[k]? =w.heap[k]?):Row w' a xs:=by
 by_cases h0:xs= []
 ·exact .inl h0
 ·rcases h with h|⟨b,o,rfl,hc⟩
  ·exact absurd h h0
  ·have hlt:=Row.lt (.inr ⟨b,o,rfl,hc⟩) h0;exact .inr ⟨b,o,rfl,fun i hi=>by rw[World.cell?_of_block (w:=w) (hk b hlt)];exact hc i hi⟩
theorem JV{w:World}{B g:Nat}{s:St}{fn:Func}{tmps:Array Value}{cM:FuncId}{fv:Fn}{cap:Array Value}{R:Ending→ World→Prop}(hd:CallsD Tryz.prog cM #[.pointer (some ⟨g,0,none⟩)] .returning w (qU w B g s .returning))(hi:(invoke (.fn fv cap) #[]).run Tryz.prog w= .ok (.enter cM #[.pointer (some ⟨g,0,none⟩)]) w)(hr:∀w' r,aU w' g (Raw.cells r)→aX w' B r (bG s)→Below g w w'→∃v,(results fn tmps).run Tryz.prog w'= .ok v w'∧R (.returned v) w'):
 Leaves Tryz.prog fn tmps R [{target:= .fn fv cap,args:= #[]}] .returning w:=by
 refine leaves_cons (f:=cM) (args:= #[.pointer (some ⟨g,0,none⟩)]) (by simp) hi ?_;refine hd.mono ?_;rintro e u' w9 ⟨rfl,rfl,r9,eQ,yi,sK,_⟩;exact hr w9 r9 eQ yi sK
theorem lg{w:World}{B g:Nat}{s:St}{fn:Func}{tmps:Array Value}{cM:FuncId}{fv:Fn}{cap:Array Value}{R:Ending→ World→Prop}(hd:CallsD Tryz.prog cM #[.pointer (some ⟨g,0,none⟩)] .returning w (qU w B g s .returning))(hi:(invoke (.fn fv cap) #[]).run Tryz.prog w= .ok (.enter cM #[.pointer (some ⟨g,0,none⟩)]) w)(hr:∀w' r,aU w' g (Raw.cells r)→aX w' B r (bG s)→dF g w w'→∃v,(results fn tmps).run Tryz.prog w'= .ok v w'∧R (.returned v) w'):
 Leaves Tryz.prog fn tmps R [{target:= .fn fv cap,args:= #[]}] .returning w:=by
 refine leaves_cons (f:=cM) (args:= #[.pointer (some ⟨g,0,none⟩)]) (by simp) hi ?_;refine hd.mono ?_;rintro e u' w9 ⟨rfl,rfl,r9,eQ,yi,_,ho9⟩;exact hr w9 r9 eQ yi ho9
theorem Lg(s:St)(r:Raw)(B:Nat)(zs:List Int)(za:Option Addr)(zn zc:Nat)(w:World)(h:aX w B r s)(cC:s.ax.length≤ 900)(hl2:s.ai.length≤ 900)(cS:s.cd.length≤ 900)(hl4:s.aP.length≤ 900)(Z3:zs.length= zn)(hzl:zn≤ 1000)(hz:Row w za (zs.map (Value.int .i64))):
 Calls Tryz.prog 73 #[r.agg,.slice za zn zc] w (mi w 0 (eW s zs)):=by
 have D3:∀(fn:Fn) (first cap:Array Value) (w:World),(Instr.makeFunc fn first cap).run Tryz.prog w= .ok (.func fn first cap) w:=fun _ _ _ _=>rfl
 have HS:=h_ h;have HL:=h_ (And.intro cC (And.intro hl2 (And.intro cS hl4)));have HZ:=h_ hz;have HMX:=h_ (show zn≤maxLen from bD o_);have fZ:=h_ (fun w' (hb:Below w.heap.size w w')=>gY s r B w' (h.below hb) cC hl2);have mq:=h_ (fun w' (hb:Below w.heap.size w w')=>jq s r B w' (h.below hb) cC hl2 cS hl4);have HE:Hid (eW s zs=if cp s=true then bG {s with ai:=s.ai.filter fun x=> !zs.contains x.id}else s):=rfl;generalize eW s zs=res at HE ⊢;obtain⟨term,ag,next,⟨a1,n1,c1⟩,⟨a2,n2,c2⟩,⟨a3,n3,c3⟩,⟨a4,n4,c4⟩⟩:=r
 have cT:Hid (∀w',Below (((w.alloc (.cells (aw term ag next a1 n1 c1 a2 n2 c2 a3 n3 c3 a4 n4 c4) 27)).alloc (.cells #[.slice za zn zc] 52)).alloc (.cells aS 27)).heap.size (((w.alloc (.cells (aw term ag next a1 n1 c1 a2 n2 c2 a3 n3 c3 a4 n4 c4) 27)).alloc (.cells #[.slice za zn zc] 52)).alloc (.cells aS 27)) w'→
  aU w' w.heap.size (Raw.cells ⟨term,ag,next,⟨a1,n1,c1⟩,⟨a2,n2,c2⟩,⟨a3,n3,c3⟩,⟨a4,n4,c4⟩⟩)∧aU w' (w.heap.size+1) [.slice za zn zc]∧aU w' (w.heap.size+1+ 1) (Raw.cells ⟨0,0,0,⟨none,0,0⟩,⟨none,0,0⟩,⟨none,0,0⟩,⟨none,0,0⟩⟩)∧w.heap.size+ 3≤w'.heap.size):=
  fun w' hb=>⟨aU.aR (ah (ah hb)),aU.cn (ah hb),aU.dR hb,by have:=hb.size;simp at this;omega⟩
 clear h cC hl2 cS hl4 hz;cases hok:cp s with
 |false=>
  have fT:=h_ hok;have HO:Hid (res=s):=by show _=_;rw[HE.out,if_neg (by rw[hok];simp)]
  clear hok HE mq;go_enter_defers Tryz.func73,Tryz.ntmps73;go_wp2_with(first|(refine aa aG rfl (.tmp 2) rfl w.heap.size 0 rfl ⟨term,ag,next,⟨a1,n1,c1⟩,⟨a2,n2,c2⟩,⟨a3,n3,c3⟩,⟨a4,n4,c4⟩⟩ (.agg (aw term ag next a1 n1 c1 a2 n2 c2 a3 n3 c3 a4 n4 c4)) rfl (cT _ aH).1.range ?_)|(go_at_call 43;((with_reducible refine(fZ.out _ aH).mono ?_);rw[fT.out];rintro e w3 ⟨rfl,hb3⟩;have jx:=h_ (cT w3 aH)))|(refine av aG rfl (.tmp 4) (.tmp 8) rfl (w.heap.size+1+ 1) ⟨term,ag,next,⟨a1,n1,c1⟩,⟨a2,n2,c2⟩,⟨a3,n3,c3⟩,⟨a4,n4,c4⟩⟩ _ rfl rfl jx.2.2.1 rfl ?_;intro w4 hb4 hw4;have gm:=h_ hb4;have Hy:=h_ hw4;clear hb4 hw4));have b3:Below w.heap.size w w3:=aH;have b4:Below w.heap.size w w4:=b3.trans (Hy.below _ o_);obtain⟨k0,k1,k2,k3,k4,k5,k6⟩:=bP gm.range;refine⟨.agg (aw term ag next a1 n1 c1 a2 n2 c2 a3 n3 c3 a4 n4 c4),by simp[results,Tryz.results73,go_sem,k0,k1,k2,k3,k4,k5,k6],⟨term,ag,next,⟨a1,n1,c1⟩,⟨a2,n2,c2⟩,⟨a3,n3,c3⟩,⟨a4,n4,c4⟩⟩,rfl,?_,b4⟩;rw[HO.out];exact(HS.below b4).mono (Nat.zero_le _)
 |true=>
  have fT:=h_ hok;have HO:Hid (res=bG {s with ai:=s.ai.filter fun x=> !zs.contains x.id}):=by show _=_;rw[HE.out,if_pos hok]
  have fh:Hid (Fits s.ai):=by
   have h:=hok;unfold cp at h;simp only[Bool.and_eq_true]at h;exact bU h.1.1 h.1.2.1
  clear hok HE;go_enter_defers Tryz.func73,Tryz.ntmps73;go_wp2_with(first|(refine aa aG rfl (.tmp 2) rfl w.heap.size 0 rfl ⟨term,ag,next,⟨a1,n1,c1⟩,⟨a2,n2,c2⟩,⟨a3,n3,c3⟩,⟨a4,n4,c4⟩⟩ (.agg (aw term ag next a1 n1 c1 a2 n2 c2 a3 n3 c3 a4 n4 c4)) rfl (cT _ aH).1.range ?_)|(go_at_call 43;((with_reducible refine(fZ.out _ aH).mono ?_);rw[fT.out];rintro e w3 ⟨rfl,hb3⟩;have jx:=h_ (cT w3 aH)))|(go_at_call 57;((with_reducible refine(mq.out _ aH).mono ?_);rintro e w4 ⟨⟨t4,s4,mj,⟨x1,m1,y1⟩,⟨x2,m2,y2⟩,⟨x3,m3,y3⟩,⟨x4,m4,y4⟩⟩,rfl,fA,hb4⟩;have iB:=h_ fA;have gm:=h_ (cT w4 aH);clear fA))|(refine av aG rfl (.tmp 4) (.tmp 11) rfl (w.heap.size+1+ 1) ⟨t4,s4,mj,⟨x1,m1,y1⟩,⟨x2,m2,y2⟩,⟨x3,m3,y3⟩,⟨x4,m4,y4⟩⟩ _ rfl rfl gm.2.2.1 rfl ?_;intro w5 jr dC;have pC:=h_ jr;have nt:=h_ dC;have q3:=jx.2.2.2;have jD:=h_ (iB.eH (cx.wrote (cx.refl w3.heap.size w4.heap.size w4) dC (.inl o_)) n_ n_);have xZ:=h_ (gm.2.1.wrote dC o_);have cv:Below (w.heap.size+1+ 1) w4 w5:=dC.below _ n_;have qH:Below w.heap.size w w5:=Below.trans (show Below w.heap.size w w4 from aH) (cv.mono o_);have q5:w5.heap.size= w4.heap.size:=dC.size;have Qp:=hb4.size;have k4:=jr.cell (j:=4) rfl;have z4:w5.frozen? ⟨w.heap.size+1+ 1,4,none⟩=false:= jr.cu (j:=4) (show 4<7 by decide);clear jr dC)|(go_at_call 129;(have HD:=Ik s.ai w3.heap.size x2 m2 y2 130 #[.pointer (some ⟨w.heap.size+1,0,none⟩)] (fun x=>zs.contains x.id) w5 jD.is.cG jD.cG o_ HL.2.1 BJ (fun x _ w' hk=>Fs x zs (w.heap.size+1) za zn zc w' Z3 HMX.out ((xZ.block (hk _ o_)).cell (j:=0) rfl) (Vq HZ.out (fun k hk2=>(hk k o_).trans (qH.block k hk2))));(with_reducible refine HD.mono ?_);clear HD;generalize hfl:s.ai.filter (fun x=> !zs.contains x.id)=fl;have Bj:=h_ hfl;clear hfl;rintro e w6 ⟨g6,rfl,Z2,Te,IQ,Wm⟩;have Xr:=h_ Z2;have ZK:=h_ Te;have Hj:=h_ Wm;have q6:=Te.size;have nQ:=h_ (pC.block (Te.block (w.heap.size+1+ 1) o_ o_));clear Z2 Te Wm k4 z4))|(refine bE rfl (.tmp 16) (.tmp 15) rfl cF.1 (w.heap.size+1+ 1) 4 _ (.slice x2 fl.length y2) rfl rfl rfl rfl nQ.out (show 4<7 by decide) ?_;intro w7 zT eO;have gX:Hid (aU w7 (w.heap.size+1+ 1) (Raw.cells ⟨t4,s4,mj,⟨x1,m1,y1⟩,⟨x2,fl.length,y2⟩,⟨x3,m3,y3⟩,⟨x4,m4,y4⟩⟩)):=zT;have E3:=h_ eO;have q7:=eO.size;clear zT eO)|(refine aa aG rfl (.tmp 4) rfl (w.heap.size+1+ 1) 0 rfl ⟨t4,s4,mj,⟨x1,m1,y1⟩,⟨x2,fl.length,y2⟩,⟨x3,m3,y3⟩,⟨x4,m4,y4⟩⟩ (.agg (aw t4 s4 mj x1 m1 y1 x2 fl.length y2 x3 m3 y3 x4 m4 y4)) rfl gX.range ?_)|(refine av aG rfl (.tmp 4) (.tmp 17) rfl (w.heap.size+1+ 1) ⟨t4,s4,mj,⟨x1,m1,y1⟩,⟨x2,fl.length,y2⟩,⟨x3,m3,y3⟩,⟨x4,m4,y4⟩⟩ _ rfl rfl gX.out rfl ?_;intro w8 eD fH;have iY:=h_ eD;have iT:=h_ fH;have q8:=fH.size;clear eD fH));have Gk:cx w3.heap.size w6.heap.size w6 w8:=((cx.refl w3.heap.size w6.heap.size w6).wrote E3.out (.inl o_)).wrote iT.out (.inl o_);have S8:aX w8 w3.heap.size ⟨t4,s4,mj,⟨x1,m1,y1⟩,⟨x2,fl.length,y2⟩,⟨x3,m3,y3⟩,⟨x4,m4,y4⟩⟩ {s with ai:=fl}:=by
   have i5:=jD.out;have hle:fl.length≤ y2:=Nat.le_trans (by rw[←Bj.out];exact Nat.le_trans (List.length_filter_le _ _) (Nat.le_of_eq i5.is.cG.len)) i5.is.cG.le;have l6:cK aJ w6 w3.heap.size ⟨x2,fl.length,y2⟩ fl:=⟨rfl,hle,i5.is.cG.nil,i5.is.cG.eZ,Xr.out⟩;exact⟨i5.is.term,i5.is.ag,i5.is.next,(i5.is.cD.apart ZK.out i5.tl.symm Hj.out).eH Gk n_ n_,l6.eH Gk n_ n_,(i5.is.eY.apart ZK.out i5.ls Hj.out).eH Gk n_ n_,(i5.is.ft.apart ZK.out i5.ld Hj.out).eH Gk n_ n_⟩
  have b8:Below w.heap.size w w8:=((qH.trans (ZK.below o_ o_)).trans (E3.below _ o_)).trans (iT.below _ o_);refine JV (Le w3.heap.size (w.heap.size+1+ 1) {s with ai:=fl} .returning w8 (kN {s with ai:=fl} _ w3.heap.size (w.heap.size+1+ 1) w8 iY.out S8 o_ o_ (fh.sub (fun x hx=>(List.mem_filter.1 (show x∈s.ai.filter (fun x=> !zs.contains x.id) by rw[Bj.out];exact hx)).1)) HL.1 (by show fl.length≤900;rw[←Bj.out];exact Nat.le_trans (List.length_filter_le _ _) HL.2.1))) (by simp[go_sem]) ?_;intro w9 r9 eQ yi sK;obtain⟨k0,k1,k2,k3,k4,k5,k6⟩:=bP eQ.range;refine⟨r9.agg,by simp[results,Tryz.results73,go_sem,k0,k1,k2,k3,k4,k5,k6],r9,rfl,?_,b8.trans (sK.mono o_)⟩;rw[HO.out,Bj.out];exact yi.mono (Nat.zero_le _)
end Go.Proofs.YtfdmhpohfjbpfaaGreat
namespace Go.Proofs.YtfdmhpohfjbpfaaGreat
open Go
set_option maxHeartbeats 16000000
def qG(st:Nat)(l:Array Bool)(C:Prop):Prop:= l.getD st true=false→ C
section
variable {P:Program} {ops:Array Oper} {Q:Exit→ Act→World→ Prop} {md:Region.Mode} {S:Array Bool→World→ Prop}
def wpAnyL(P:Program)(md:Region.Mode)(ops:Array Oper)(Q:Exit→ Act→World→ Prop)(S:Array Bool→World→ Prop):Nat→ Array Bool→Act→ World→Prop
 |0,listed,a,w=>Region.ready md ops listed=[]∧Q .normal a w
 |fuel+ 1,listed,a,w=>
  (Region.ready md ops listed=[]→Q .normal a w)∧
  ∀i∈ Region.ready md ops listed,wpOp P ops Q i (fun a' w'=>S (listed.setIfInBounds i true) w'∧wpAnyL P md ops Q S fuel (listed.setIfInBounds i true) a' w') a w
theorem xp:∀(fuel:Nat) (listed:Array Bool) (a:Act) (w:World),wpAnyL P md ops Q S fuel listed a w→wpAny P md ops Q fuel listed a w
 |0,_,_,_,h=>h
 |fuel+ 1,_,_,_,h=>⟨h.1,fun i hi=>wpOp_mono (fun a' w' h'=>xp fuel _ a' w' h'.2) (h.2 i hi)⟩
abbrev tE(D:List Nat)(listed:Array Bool):Prop:= ∀d∈ D,listed.getD d true=false
def zb(md:Region.Mode)(ops:Array Oper)(i:Nat)(D:List Nat):Bool:=
 D.all fun d=>match ops[d]? with|some o=>o.after.any (fun e=>Region.binds md e&&(e.on==i|| D.contains e.on))|none=> false
theorem Gp{i j:Nat}{D:List Nat}{listed:Array Bool}(hw:zb md ops i D=true)(hi:listed.getD i true=false)(hD:tE D listed)(hj:j∈ Region.ready md ops listed):tE D (listed.setIfInBounds j true):=fun d hd=>by
 have hne:j≠ d:=by
  rintro rfl;obtain⟨_,o,ho,hall⟩:=mem_ready.1 hj;have h1:=(List.all_eq_true.1 hw) j hd;simp only[ho]at h1;obtain⟨e,he,h2⟩:∃e,e∈o.after∧ (Region.binds md e&&(e.on==i|| D.contains e.on))=true:= by
   obtain⟨n,hn,h1⟩:=Array.any_eq_true.1 h1;exact⟨_,Array.getElem_mem hn,h1⟩
  rw[Bool.and_eq_true,Bool.or_eq_true]at h2;have h3:=hall e he h2.1;have h4:listed.getD e.on true=false:= by
   rcases h2.2 with h|h
   ·have:e.on= i:=by simpa using h
    rw[this];exact hi
   ·exact hD _ (by simpa using h)
  rcases Nat.lt_or_ge e.on listed.size with h'|h'
  ·simp[h']at h3 h4;rw[h4]at h3;cases h3
  ·simp[Array.getElem?_eq_none h']at h3
 rw[getD_set_ne true hne];exact hD d hd
theorem Ja{i:Nat}{oi:Oper}{v:Value}(D:List Nat)(hi:ops[i]? =some oi)(YD:∀(j:Nat) (o:Oper) cs b,ops[j]? =some o→o.op≠ .select cs b)(hQ:∀c a w,Q (.panic c) (a.put oi.dst v) w→Q (.panic c) a w)(hw:zb md ops i D=true)(Qk:∀l w,S (l.setIfInBounds i true) w→S l w):
 ∀(fuel:Nat) (listed:Array Bool) (a:Act) (w:World),
  (∀j oj,ops[j]? =some oj→j≠ i→listed.getD j true=false→ (∀e∈ oj.after,Region.binds md e=true→ e.on≠i)→oi.apart ops oj=true)→
  i∈Region.ready md ops listed→tE D listed→YieldsIf P ops (fun w=>∃l,tE D l∧S l w) oi v a→S listed w→
  wpAnyL P md ops Q S fuel (listed.setIfInBounds i true) (a.put oi.dst v) w→(S (listed.setIfInBounds i true) w)→wpAnyL P md ops Q S (fuel+1) listed a w:=by
 intro fuel
 induction fuel with
 |zero=>
  intro listed a w _ hr hD hy hS H hSn;refine⟨fun h=>(by rw[h]at hr;cases hr),fun j hj=> ?_⟩;by_cases Ol:j= i
  ·subst Ol;exact hy.wpOp (w:=w) hi ⟨listed,hD,hS⟩ ⟨hSn,H⟩
  ·have:=ready_mono hj Ol;rw[H.1]at this;cases this
 |succ fuel ih=>
  intro listed a w hfree hr hD hy hS H hSn;refine⟨fun h=>(by rw[h]at hr;cases hr),fun j hj=> ?_⟩;by_cases Ol:j= i
  ·subst Ol;exact hy.wpOp (w:=w) hi ⟨listed,hD,hS⟩ ⟨hSn,H⟩
  ·have h1:=H.2 j (ready_mono hj Ol);obtain⟨Yk,oj,hoj,hall⟩:=mem_ready.1 hj;have UX:=(mem_ready.1 hr).1;have aco:∀e∈ oj.after,Region.binds md e=true→ e.on≠i:= fun e he hb heq=>by
    have h1:=hall e he hb;rw[heq]at h1;rcases Nat.lt_or_ge i listed.size with h'|h'
    ·simp[h']at UX h1;rw[UX]at h1;cases h1
    ·simp[Array.getElem?_eq_none h']at h1
   have h2:=wpOp_putIf hoj (hfree j oj hoj Ol Yk aco) (fun cs b=>YD i oi cs b hi) (fun cs b=>YD j oj cs b hoj) hQ hy h1;have UT:∀k ok,ops[k]? =some ok→k≠ i→(listed.setIfInBounds j true).getD k true=false→
    (∀e∈ ok.after,Region.binds md e=true→ e.on≠i)→oi.apart ops ok=true:= fun k ok hk hki hun hno=>by
    refine hfree k ok hk hki ?_ hno;by_cases hjk:j= k
    ·subst hjk;exact Yk
    ·rw[getD_set_ne true hjk]at hun;exact hun
   have Yd:(listed.setIfInBounds i true).setIfInBounds j true=(listed.setIfInBounds j true).setIfInBounds i true:=Array.setIfInBounds_comm _ _ (Ne.symm Ol);refine wpOp_mono (fun a' w' h3=> ?_) h2;have h4:=h3.2.1;have h5:=h3.2.2;rw[Yd]at h4 h5;have h6:=Qk _ _ h4;exact⟨h6,ih (listed.setIfInBounds j true) a' w' UT (ready_mono hr (Ne.symm Ol)) (Gp hw UX hD hj) h3.1 h6 h5 h4⟩
theorem xV(D:List Nat){i:Nat}{oi:Oper}{v:Value}{fuel:Nat}{listed:Array Bool}{a:Act}{w:World}(hi:ops[i]? =some oi)(hs:Region.noSelect ops=true)(hf:Region.free md ops listed i=true)(hr:(Region.ready md ops listed).contains i=true)(hw:zb md ops i D=true)(hD:(D.all fun d=> !(listed.getD d true))=true)(hQ:∀c a w,Q (.panic c) (a.put oi.dst v) w→Q (.panic c) a w)(Qk:∀l w,S (l.setIfInBounds i true) w↔S l w)(hy:YieldsIf P ops (fun w=>∃l,tE D l∧S l w) oi v a)(hS:S listed w)(h:wpAnyL P md ops Q S fuel (listed.setIfInBounds i true) (a.put oi.dst v) w):wpAnyL P md ops Q S (fuel+1) listed a w:=
 Ja D hi (Region.noSelect_spec hs) hQ hw (fun l w=>(Qk l w).1) fuel listed a w (Region.free_spec hi hf) (by simpa using hr) (fun d hd=>by have:=(List.all_eq_true.1 hD) d hd;simpa using this) hy hS h ((Qk _ _).2 hS)
theorem G1{listed:Array Bool}{a:Act}{w:World}(hr:Region.ready md ops listed=[])(h:Q .normal a w):∀fuel,wpAnyL P md ops Q S fuel listed a w
 |0=> ⟨hr,h⟩
 |_+ 1=>⟨fun _=>h,by rw[hr];simp⟩
theorem wp_region_list(S:Array Bool→World→ Prop){id:Nat}{a:Act}{w:World}(hm:P.follows .mixedOrders=true)(h:wpAnyL P .any ops Q S ops.size (Array.replicate ops.size false) a w.drew):(Code.region id ops true).wp P Q a w:=
 wp_region_any hm (xp _ _ _ _ h)
def Cs(w:World)(g:Nat):Nat→ List Value→Prop
 |_,[]=>True
 |i,v::vs=> w.cell? ⟨g,i,none⟩=some v∧Cs w g (i+1) vs
theorem Cs.of{w:World}{g:Nat}:∀ {cs:List Value} {i:Nat},(∀j v,cs[j]? =some v→w.cell? ⟨g,i+j,none⟩=some v)→Cs w g i cs
 |[],_,_=>trivial
 |v:: vs,i,h=>⟨h 0 v rfl,Cs.of fun j x hx=>by rw[show i+1+ j=i+ (j+1) by omega];exact h (j+1) x hx⟩
def wpAnyS(P:Program)(md:Region.Mode)(ops:Array Oper)(Q:Exit→ Act→World→ Prop)(S:Array Bool→World→ Prop)(fuel:Nat)(listed:Array Bool)(a:Act)(w:World):Prop:= S listed w→wpAnyL P md ops Q S fuel listed a w
theorem wY{fuel:Nat}{listed:Array Bool}{a:Act}{w:World}(hS:S listed w)(h:wpAnyS P md ops Q S fuel listed a w):wpAnyL P md ops Q S fuel listed a w:=h hS
theorem ofS{fuel:Nat}{listed:Array Bool}{a:Act}{w:World}(h:wpAnyL P md ops Q S fuel listed a w):wpAnyS P md ops Q S fuel listed a w:=fun _=>h
theorem dx(i:Nat){oi:Oper}{v:Value}{fuel:Nat}{listed l':Array Bool}{a a':Act}{w:World}(h:wpAnyS P md ops Q S fuel l' a' w)(hi:ops[i]? =some oi:=by exact rfl)(hy:YieldsIf P ops (fun w=>∃l,tE [] l∧S l w) oi v a:=by exact Or.inl ⟨by rfl,by(rintro w ⟨l,hD,hSw⟩;(try dsimp only at hSw);(try simp only[Cs,and_true,Nat.reduceAdd]at hSw);clear hD;go_simp;rfl)⟩)(hs:Region.noSelect ops=true:= by kernel_rfl)(hf:Region.free md ops listed i=true:= by kernel_rfl)(hr:(Region.ready md ops listed).contains i=true:= by kernel_rfl)(hQ:∀c a w,Q (.panic c) (a.put oi.dst v) w→Q (.panic c) a w:=by exact fun _ _ _ h=>h)(Qk:∀l w,S (l.setIfInBounds i true) w↔S l w:=by exact fun _ _=>Iff.rfl)(ha:a.put oi.dst v=a':= by((try simp only[Act.put,List.setIfInBounds_toArray,List.set_cons_zero,List.set_cons_succ,List.getElem_toArray,List.getElem_cons_zero,List.getElem_cons_succ]);exact rfl))(hl:listed.setIfInBounds i true=l':= by((try simp only[List.setIfInBounds_toArray,List.set_cons_zero,List.set_cons_succ]);exact rfl)):wpAnyS P md ops Q S (fuel+1) listed a w:=
 fun hS=>xV [] hi hs hf hr rfl rfl hQ Qk hy hS (by rw[ha,hl];exact h (hl▸(Qk _ _).2 hS))
theorem jI{i st:Nat}{l:Array Bool}{C:Prop}(h:i≠ st):qG st (l.setIfInBounds i true) C↔qG st l C:=by unfold qG;rw[getD_set_ne true h]
theorem cH(D:List Nat)(i:Nat){oi:Oper}{v:Value}{fuel:Nat}{listed l':Array Bool}{a a':Act}{w:World}(h:wpAnyS P md ops Q S fuel l' a' w)(hi:ops[i]? =some oi:=by exact rfl)(hy:YieldsIf P ops (fun w=>∃l,tE D l∧S l w) oi v a:=by exact Or.inl ⟨by rfl,by(rintro w ⟨l,hD,hSw⟩;(try dsimp only at hSw);(try simp only[Cs,and_true,Nat.reduceAdd]at hSw);(try have Wl:=hSw.2 (hD _ (List.mem_singleton_self _)));replace hSw:=hSw.1;clear hD;go_simp;rfl)⟩)(hs:Region.noSelect ops=true:= by kernel_rfl)(hf:Region.free md ops listed i=true:= by kernel_rfl)(hr:(Region.ready md ops listed).contains i=true:= by kernel_rfl)(hw:zb md ops i D=true:= by kernel_rfl)(hD:(D.all fun d=> !(listed.getD d true))=true:= by kernel_rfl)(hQ:∀c a w,Q (.panic c) (a.put oi.dst v) w→Q (.panic c) a w:=by exact fun _ _ _ h=>h)(Qk:∀l w,S (l.setIfInBounds i true) w↔S l w:=by (intro l w;first|exact and_congr Iff.rfl (jI d_)|exact and_congr Iff.rfl (and_congr (jI d_) (jI d_))|exact and_congr Iff.rfl (and_congr (jI d_) (and_congr (jI d_) (jI d_)))|exact and_congr Iff.rfl (and_congr (jI d_) (and_congr (jI d_) (and_congr (jI d_) (jI d_))))))(ha:a.put oi.dst v=a':= by((try simp only[Act.put,List.setIfInBounds_toArray,List.set_cons_zero,List.set_cons_succ,List.getElem_toArray,List.getElem_cons_zero,List.getElem_cons_succ]);exact rfl))(hl:listed.setIfInBounds i true=l':= by((try simp only[List.setIfInBounds_toArray,List.set_cons_zero,List.set_cons_succ]);exact rfl)):wpAnyS P md ops Q S (fuel+1) listed a w:=
 fun hS=>xV D hi hs hf hr hw hD hQ Qk hy hS (by rw[ha,hl];exact h (hl▸(Qk _ _).2 hS))
def nC(P:Program)(md:Region.Mode)(ops:Array Oper)(Q:Exit→ Act→World→ Prop)(S:Array Bool→World→ Prop)(fuel:Nat)(listed:Array Bool)(a:Act)(w:World)(i:Nat)(o:Oper):Prop:=
 ∀K: Act→World→ Prop,Shut (∀a w {l' a'},S (listed.setIfInBounds i true) w→wpAnyS P md ops Q S fuel l' a' w→(ha:a= a':=by ((try simp only[Act.put,List.setIfInBounds_toArray,List.set_cons_zero,List.set_cons_succ,List.getElem_toArray,List.getElem_cons_zero,List.getElem_cons_succ]);exact rfl))→(hl:listed.setIfInBounds i true=l':= by((try simp only[List.setIfInBounds_toArray,List.set_cons_zero,List.set_cons_succ]);exact rfl))→K a w)→if Region.wanted o (yielded ops a.tmps)=true then Oper.wp P o a w K Q else K (a.put o.dst undef) w
theorem nC.wp{fuel:Nat}{listed:Array Bool}{a:Act}{w:World}{i:Nat}{o:Oper}(h:nC P md ops Q S fuel listed a w i o)(ho:ops[i]? =some o):
 wpOp P ops Q i (fun a' w'=>S (listed.setIfInBounds i true) w'∧wpAnyL P md ops Q S fuel (listed.setIfInBounds i true) a' w') a w:=
 wpOp_step ho (fun K' hK=>h K' (fun a w l' a' hS hW ha hl=>hK a w ⟨hS,by subst ha;subst hl;exact hW hS⟩))
theorem loq(i:Nat){o:Oper}{fuel:Nat}{listed:Array Bool}{a:Act}{w:World}(h:nC P md ops Q S fuel listed a w i o)(ho:ops[i]? =some o:=by exact rfl)(hr:Region.ready md ops listed=[i]:=by kernel_rfl):
 wpAnyL P md ops Q S (fuel+1) listed a w:=by
 refine⟨fun h0=>(by rw[hr]at h0;cases h0),fun j hj=> ?_⟩;rw[hr]at hj;obtain rfl:=List.mem_singleton.1 hj;exact h.wp ho
theorem gH(i:Nat){o:Oper}{fuel:Nat}{listed:Array Bool}{a:Act}{w:World}(h:nC P md ops Q S fuel listed a w i o)(ho:ops[i]? =some o:=by exact rfl)(hr:Region.ready md ops listed=[i]:=by kernel_rfl):
 wpAnyS P md ops Q S (fuel+1) listed a w:=ofS (loq i h ho hr)
theorem l2q(i j:Nat){o o2:Oper}{fuel:Nat}{listed:Array Bool}{a:Act}{w:World}(h:nC P md ops Q S fuel listed a w i o)(h2:nC P md ops Q S fuel listed a w j o2)(ho:ops[i]? =some o:=by exact rfl)(py:ops[j]? =some o2:=by exact rfl)(hr:Region.ready md ops listed=[i,j]:=by kernel_rfl):
 wpAnyL P md ops Q S (fuel+1) listed a w:=by
 refine⟨fun h0=>(by rw[hr]at h0;cases h0),fun k hk=> ?_⟩;rw[hr]at hk;rcases List.mem_cons.1 hk with rfl|hk
 ·exact h.wp ho
 ·obtain rfl:=List.mem_singleton.1 hk;exact h2.wp py
theorem Pc(i j:Nat){o o2:Oper}{fuel:Nat}{listed:Array Bool}{a:Act}{w:World}(h:nC P md ops Q S fuel listed a w i o)(h2:nC P md ops Q S fuel listed a w j o2)(ho:ops[i]? =some o:=by exact rfl)(py:ops[j]? =some o2:=by exact rfl)(hr:Region.ready md ops listed=[i,j]:=by kernel_rfl):
 wpAnyS P md ops Q S (fuel+1) listed a w:=ofS (l2q i j h h2 ho py hr)
theorem l3q(i j k:Nat){o o2 o3:Oper}{fuel:Nat}{listed:Array Bool}{a:Act}{w:World}(h:nC P md ops Q S fuel listed a w i o)(h2:nC P md ops Q S fuel listed a w j o2)(h3:nC P md ops Q S fuel listed a w k o3)(ho:ops[i]? =some o:=by exact rfl)(py:ops[j]? =some o2:=by exact rfl)(ho3:ops[k]? =some o3:=by exact rfl)(hr:Region.ready md ops listed=[i,j,k]:=by kernel_rfl):
 wpAnyL P md ops Q S (fuel+1) listed a w:=by
 refine⟨fun h0=>(by rw[hr]at h0;cases h0),fun q hk=> ?_⟩;rw[hr]at hk;rcases List.mem_cons.1 hk with rfl|hk
 ·exact h.wp ho
 ·rcases List.mem_cons.1 hk with rfl|hk
  ·exact h2.wp py
  ·obtain rfl:=List.mem_singleton.1 hk;exact h3.wp ho3
theorem s3q(i j k:Nat){o o2 o3:Oper}{fuel:Nat}{listed:Array Bool}{a:Act}{w:World}(h:nC P md ops Q S fuel listed a w i o)(h2:nC P md ops Q S fuel listed a w j o2)(h3:nC P md ops Q S fuel listed a w k o3)(ho:ops[i]? =some o:=by exact rfl)(py:ops[j]? =some o2:=by exact rfl)(ho3:ops[k]? =some o3:=by exact rfl)(hr:Region.ready md ops listed=[i,j,k]:=by kernel_rfl):
 wpAnyS P md ops Q S (fuel+1) listed a w:=ofS (l3q i j k h h2 h3 ho py ho3 hr)
theorem vM{fuel:Nat}{listed:Array Bool}{a:Act}{w:World}(h:Q .normal a w)(hr:Region.ready md ops listed=[]:=by kernel_rfl):wpAnyS P md ops Q S fuel listed a w:=ofS (G1 hr h _)
theorem xj(S:Array Bool→World→ Prop){id:Nat}{a:Act}{w:World}(h:wpAnyL P .any ops Q S ops.size (Array.replicate ops.size false) a w.drew)(hm:P.follows .mixedOrders=true:= by kernel_rfl):(Code.region id ops true).wp P Q a w:=wp_region_list S hm h
end
end Go.Proofs.YtfdmhpohfjbpfaaGreat
namespace Go.Proofs.YtfdmhpohfjbpfaaGreat
open Go.ChangeShapes Go.WideShapes Go.ChangeAt Go.RowKit
set_option maxRecDepth 100000
set_option maxHeartbeats 16000000
def ct(w:World)(g:Nat)(cs:List Value):Prop:= ∃t,w.heap[g]? =some (.cells cs.toArray t (0,0))
theorem ct.JS{w:World}{g:Nat}{cs:List Value}(h:ct w g cs)(j:Nat):w.cell? ⟨g,j,none⟩=cs[j]?:=by
 obtain⟨t,h⟩:=h;simp[World.cell?,h]
theorem aU.cs{w:World}{g:Nat}{cs:List Value}(h:aU w g cs):Cs w g 0 cs:=Cs.of h.range
theorem ct.box{w:World}{g:Nat}{cs:List Value}(h:ct w g cs):aU w g cs:=⟨fun j v hj=>by rw[Nat.zero_add,h.JS j,hj],fun j hj=>by
 rw[Nat.zero_add,h.JS j];refine⟨by rw[List.getElem?_eq_getElem hj];rfl,?_⟩;obtain⟨t,h⟩:=h
 simp[World.frozen?,h]⟩
theorem ct.lt{w:World}{g:Nat}{cs:List Value}(h:ct w g cs):g< w.heap.size:=by
 obtain⟨t,h⟩:=h;exact(Array.getElem?_eq_some_iff.1 h).1
theorem ct.block{w w':World}{g:Nat}{cs:List Value}(h:ct w g cs)(hg:w'.heap[g]? =w.heap[g]?):ct w' g cs:=by
 obtain⟨t,h⟩:=h;exact⟨t,hg.trans h⟩
theorem ct.next{w w':World}{g:Nat}{cs:List Value}(h:ct w g cs)(hb:Below w.heap.size w w'):ct w' g cs:=h.block (hb.block g h.lt)
theorem ct.below{w w':World}{g B:Nat}{cs:List Value}(h:ct w g cs)(hb:Below B w w')(hg:g< B):ct w' g cs:=h.block (hb.block g hg)
theorem ct.wrote{w w':World}{g g':Nat}{cs:List Value}(h:ct w g cs)(hw:dt g' w w')(hne:g≠ g'):ct w' g cs:=h.block (hw.bY g hne)
theorem ct.only{w w':World}{g g':Nat}{cs:List Value}(h:ct w g cs)(hw:dF g' w w')(hne:g≠ g'):ct w' g cs:=h.block (hw.block g h.lt hne)
theorem ct.drew{w:World}{g:Nat}{cs:List Value}(h:ct w g cs):ct w.drew g cs:=h.block rfl
theorem ct.lY{w:World}{g:Nat}{cs:List Value}(h:ct w g cs){p:Addr}(hp:p.block≠ g)(v:Value):ct (w.setCell p v) g cs:=h.block (Below.heap_setCell _ _ _ _ (fun e=>hp e.symm))
theorem ct.set{w:World}{g:Nat}{cs:List Value}(h:ct w g cs)(i:Nat)(v:Value):ct (w.setCell ⟨g,i,none⟩ v) g (cs.set i v):=by
 obtain⟨t,h⟩:=h;refine⟨t,?_⟩;rw[heap_setCell_same w g i _ t v h,List.setIfInBounds_toArray]
theorem ct.new(w:World)(cs:List Value)(t:TypeId):ct (w.alloc (.cells cs.toArray t)) w.heap.size cs:=⟨t,heap_alloc_new w _⟩
theorem ct.aR{w w':World}{cs:List Value}{t:TypeId}(hb:Below (w.alloc (.cells cs.toArray t)).heap.size (w.alloc (.cells cs.toArray t)) w'):ct w' w.heap.size cs:=(ct.new w cs t).next hb
theorem uE{g:Nat}:∀(vs:List Value) (w:World) (pre eH post:List Value),eH.length=vs.length→ ct w g (pre++(eH++post))→ct (w.setCells g pre.length vs) g (pre++(vs++post))
 |[],w,pre,eH,post,hl,h=>by
  obtain rfl:eH= []:=List.eq_nil_of_length_eq_zero hl;exact h
 |v:: vs,w,pre,[],post,hl,h=>by cases hl
 |v:: vs,w,pre,m::eH,post,hl,h=>by
  rw[World.setCells];have h1:=h.set pre.length v;rw[List.set_append_right _ _ n_,Nat.sub_self,List.cons_append,List.set_cons_zero]at h1;have h2:ct (w.setCell ⟨g,pre.length,none⟩ v) g ((pre++[v])++(eH++post)):=by rw[List.append_assoc];exact h1
  have h3:=uE vs _ (pre++[v]) eH post (by simpa using hl) h2;rw[List.length_append,List.length_singleton,List.append_assoc]at h3;exact h3
theorem ct.put{w:World}{g:Nat}{cs vs:List Value}(h:ct w g cs)(hl:cs.length= vs.length):ct (w.setCells g 0 vs) g vs:=by
 have:=uE (g:=g) vs w [] cs [] hl (by simpa using h);simpa using this
section
variable {P:Program} {e:TypeId} {α:Type}
theorem au{ops:Array Oper}{rest:List Oper}{op:Oper}{a:Act}{w:World}{Q:Exit→ Act→World→ Prop}(L:iW P e α)(hgd:op.guard= none)(x y:Operand)(ho:op.op= .store e x y)(g:Nat)(z:α)(cs:List Value)(hx:a.eval x= .pointer (some ⟨g,0,none⟩))(hy:a.eval y=L.val z)(hb:ct w g cs)(hl:cs.length= L.size)(h:∀w',ct w' g (L.cells z)→dt g w w'→wpList P ops Q rest (a.put op.dst undef) w'):wpList P ops Q (op::rest) a w:=
 fY L hgd x y ho g 0 z hx hy (by rw[←hl];exact hb.box.there) (h _ (hb.put (by rw[hl,L.len])) ⟨fun _ hB=>Below.setCells hB _ _ b_,dW _ _ _ _,fun k hk=>dh g _ _ _ k hk⟩)
theorem fy{ops:Array Oper}{rest:List Oper}{op:Oper}{a:Act}{w:World}{Q:Exit→ Act→World→ Prop}{t:TypeId}(hgd:op.guard= none)(x y:Operand)(ho:op.op= .store t x y)(hi:(P.info? t).map (·.size)=some 1)(g i:Nat)(cs:List Value)(v:Value)(hx:a.eval x= .pointer (some ⟨g,i,none⟩))(hy:a.eval y=v)(hv:v.cells= #[v])(h1:v.oneCell'= true)(hb:ct w g cs)(hlt:i< cs.length)(h:∀w',ct w' g (cs.set i v)→dt g w w'→wpList P ops Q rest (a.put op.dst undef) w'):wpList P ops Q (op::rest) a w:=
 wpList_plain hgd fun K hK=>by
  have Ae:w.there g i 1:=fun j hj=>by
   have:=hb.box.there i hlt;obtain rfl:j= 0:=o_;rw[Nat.zero_add]at this;exact this
  have hrun:(storeVar t ⟨g,i,none⟩ v).run P w= .ok () (w.setCell ⟨g,i,none⟩ v):=by
   have:=run_storeCells_cells (P:=P) g i [v] 0 w (fun j hj=>by simpa using (Ae j (by simpa using hj)).1) (fun j hj=>by simpa using (Ae j (by simpa using hj)).2) (fun u hu=>by simp at hu;subst hu;exact h1);cases hq:P.info? t with
   |none=> simp[hq]at hi
   |some q=>
    have hs:q.size= 1:=by simpa[hq]using hi
    simp only[Nat.add_zero]at this;simp[storeVar,sizeOf,typeInfo,hq,hv,hs,this,World.setCells]
  unfold Oper.wp execOp;simp only[ho,hx,hy,Instr.storeAt,Instr.sureAddr,Sem.run_bind,Sem.run_pure,Result.andThen_ok,hrun];exact hK _ _ (h _ (hb.set i v) ⟨fun B hB=>(Below.refl B w).setCell (p:=⟨g,i,none⟩) hB v,by simp,fun k hk=>Below.heap_setCell _ _ _ _ (fun e=>hk e)⟩)
theorem bC{P:Program}{ops:Array Oper}{Q:Exit→ Act→World→ Prop}{rest:List Oper}{a:Act}{w:World}{d:Option Tmp}{t:TypeId}{p:String}{af:Array Edge}{g:Option (Nat×Bool)}(e:TypeId)(x:Operand)(h:wpList P ops Q ({dst:=d,op:= .load e x,type:=t,pos:=p,after:=af,guard:=g}::rest) a w):wpList P ops Q ({dst:=d,op:= .load e x,type:=t,pos:=p,after:=af,guard:=g}::rest) a w:=h
theorem aO{P:Program}{ops:Array Oper}{Q:Exit→ Act→World→ Prop}{rest:List Oper}{a:Act}{w:World}{d:Option Tmp}{t:TypeId}{p:String}{af:Array Edge}{g:Option (Nat×Bool)}(e:TypeId)(x y:Operand)(h:wpList P ops Q ({dst:=d,op:= .store e x y,type:=t,pos:=p,after:=af,guard:=g}::rest) a w):wpList P ops Q ({dst:=d,op:= .store e x y,type:=t,pos:=p,after:=af,guard:=g}::rest) a w:=h
def pE(L:iW P e α)(cs:List Value):Prop:= ∀x o,∃(i:Nat) (v:Value),(L.cells x)[i]? =some v∧cs[o+i]?≠some v
variable {L:iW P e α}
theorem bF.off{w:World}{a:Option Addr}{xs:List α}{g:Nat}{cs:List Value}(h:bF L w a xs)(hb:ct w g cs)(hm:pE L cs)(h0:xs≠ []):∀b o s,a=some ⟨b,o,s⟩→b≠ g:=by
 rintro b o s rfl rfl;rcases h with h|⟨b',o',he,hc⟩
 ·cases xs with
  |nil=> exact h0 rfl
  |cons x xs=>
   obtain⟨i,v,h1,_⟩:=hm x o;have h2:=congrArg List.length h;rw[List.flatMap_cons,List.length_append,List.length_nil]at h2;have h3:=(List.getElem?_eq_some_iff.1 h1).1;omega
 ·simp only[Option.some.injEq,Addr.mk.injEq]at he;obtain⟨rfl,rfl,rfl⟩:=he;cases xs with
  |nil=> exact h0 rfl
  |cons x xs=>
   obtain⟨i,v,h1,h2⟩:=hm x o;have h3:=(List.getElem?_eq_some_iff.1 h1).1;have hi:i< ((x::xs).flatMap L.cells).length:=by rw[List.flatMap_cons,List.length_append];omega
   have h4:=hc i hi;rw[hb.JS (o+i)]at h4;refine h2 (h4.trans ?_);rw[←List.getElem?_eq_getElem hi,List.flatMap_cons,List.getElem?_append_left h3];exact h1
theorem bF.gj{w w':World}{a:Option Addr}{xs:List α}{g:Nat}{cs:List Value}(h:bF L w a xs)(hb:ct w g cs)(hm:pE L cs)(hk:∀k,k<w.heap.size→ k≠g→ w'.heap[k]? =w.heap[k]?):bF L w' a xs:=by
 by_cases h0:xs= []
 ·subst h0;exact .inl rfl
 ·exact h.bY (g:=g) hk (h.off hb hm h0)
theorem cK.gj{w w':World}{B:Nat}{s:sH}{xs:List α}{g:Nat}{cs:List Value}(h:cK L w B s xs)(hb:ct w g cs)(hm:pE L cs)(hk:∀k,k<w.heap.size→ k≠g→ w'.heap[k]? =w.heap[k]?):cK L w' B s xs:=⟨h.len,h.le,h.nil,h.eZ,h.row.gj hb hm hk⟩
end
theorem gI.gj{w w':World}{B:Nat}{s:sH}{xs:List bR}{g:Nat}{cs:List Value}(h:gI w B s xs)(hb:ct w g cs)(hm:pE ay cs)(hl:0< cs.length∧cs.length< 8)(hs:w.heap.size≤ w'.heap.size)(hk:∀k,k<w.heap.size→ k≠g→ w'.heap[k]? =w.heap[k]?):gI w' B s xs:=by
 have hrow:=h.row.gj hb hm hk;refine⟨h.tocK.gj hb hm hk,fun h0=> ?_,fun h0 x o q e=>Nat.lt_of_lt_of_le (h.lt h0 x o q e) hs⟩;have ho:=h.own h0;have key:∀ {v n ys},w.ownsRow B 66 ay.size v n ys→w'.ownsRow B 66 ay.size v n ys:=fun {v n ys} q=>by
  obtain⟨q1,q2⟩:=q;refine⟨q1,?_⟩;rcases q2 with q2|⟨g',cap,cur,q3,q4,q5,q6,q7,q8,q9⟩
  ·exact .inl q2
  ·refine .inr ⟨g',cap,cur,q3,q4,?_,q6,q7,q8,q9⟩;have hlt:=(Array.getElem?_eq_some_iff.1 q5).1;by_cases e:g'= g
   ·subst e;obtain⟨t,hb⟩:=hb;rw[q5]at hb;simp only[Option.some.injEq,Obj.cells.injEq]at hb;have h1:=congrArg Array.size hb.1;rw[q8]at h1;simp only[List.size_toArray]at h1;have h2:cap* 8=cs.length:= h1;omega
   ·rw[hk g' hlt e];exact q5
 exact⟨⟨ho.can.1,ho.can.2.1,ho.can.2.2.imp (fun q=>⟨q.1,hrow⟩) key⟩,fun h1=>key (ho.own h1)⟩
structure yI(cs:List Value):Prop where
 cD:pE aT cs
 cG:pE aJ cs
 eY:pE aB cs
 ft:pE ay cs
 len:0< cs.length∧cs.length< 8
theorem aX.gj{w w':World}{B:Nat}{r:Raw}{s:St}{g:Nat}{cs:List Value}(h:aX w B r s)(hb:ct w g cs)(hm:yI cs)(hs:w.heap.size≤ w'.heap.size)(hk:∀k,k<w.heap.size→ k≠g→ w'.heap[k]? =w.heap[k]?):aX w' B r s:=
 ⟨h.term,h.ag,h.next,h.cD.gj hb hm.cD hk,h.cG.gj hb hm.cG hk,h.eY.gj hb hm.eY hk,h.ft.gj hb hm.ft hm.len hs hk⟩
theorem abL{x:List Value}{o:Nat}{cs:List Value}{a:Option Addr}{m c:Nat}(h0:∀j,j≤3→ ∃k,x[j]? =some (.int .i64 k))(h3:cs[3]? =some (.slice a m c))(hl:cs.length= 7):∃(i:Nat) (v:Value),x[i]? =some v∧cs[o+i]?≠some v:=by
 by_cases ho:o≤ 3
 ·obtain⟨k,hk⟩:=h0 (3-o) o_;refine⟨3-o,_,hk,?_⟩;rw[show o+(3-o)=3 by omega,h3];simp
 ·obtain⟨k,hk⟩:=h0 3 n_;refine⟨3,_,hk,?_⟩;rw[List.getElem?_eq_none o_];simp
theorem bB(r:Raw):yI r.cells:=by
 have go:∀(x:List Value),(∀j,j≤3→ ∃k,x[j]? =some (.int .i64 k))→∀o,∃(i:Nat) (v:Value),x[i]? =some v∧r.cells[o+i]?≠some v:=fun x h o=>abL h rfl rfl
 have f4:∀(a b c d:Int) (l:List Value) (j:Nat),j≤3→ ∃k,(Value.int .i64 a:: .int .i64 b:: .int .i64 c:: .int .i64 d::l)[j]? =some (.int .i64 k):=fun a b c d l j hj=>by
  match j,hj with
  |0,_=>exact ⟨a,rfl⟩
  |1,_=>exact ⟨b,rfl⟩
  |2,_=>exact ⟨c,rfl⟩
  |3,_=>exact ⟨d,rfl⟩
 exact⟨fun x=>go _ (f4 _ _ _ _ _),fun x=>go _ (f4 _ _ _ _ _),fun x=>go _ (f4 _ _ _ _ _),fun x=>go _ (f4 _ _ _ _ _),show 0<7∧ 7<8 by decide⟩
theorem bj(a:bS):yI a.cells:=by
 refine⟨fun x o=>⟨4,.bool x.gone,rfl,?_⟩,fun x o=>⟨6,_,rfl,?_⟩,fun x o=>⟨6,_,rfl,?_⟩,fun x o=>⟨6,_,rfl,?_⟩,show 0<5∧ 5<8 by decide⟩
 ·by_cases ho:o= 0
  ·subst ho;simp
  ·rw[List.getElem?_eq_none (by simp;omega)];simp
 ·rw[List.getElem?_eq_none (by simp)];simp
 ·rw[List.getElem?_eq_none (by simp)];simp
 ·rw[List.getElem?_eq_none (by simp)];simp
end Go.Proofs.YtfdmhpohfjbpfaaGreat
namespace Go.Proofs.YtfdmhpohfjbpfaaGreat
set_option maxHeartbeats 16000000
theorem bI{s:St}(h:cp s=true):aZ 0 s.ax=true∧ eu s.ax s.next s.ai=true∧ (s.ai.length≤64∧ 1≤s.next∧ s.next≤1099511627776)∧∀x∈ s.ax,ei s.ai x=true:= by
 unfold cp at h;simp only[Bool.and_eq_true,decide_eq_true_eq]at h;exact⟨h.1.1,h.1.2.1,h.1.2.2,List.all_eq_true.1 h.2⟩
theorem yX{s:St}(h1:aZ 0 s.ax=true)(h2:eu s.ax s.next s.ai=true)(h3:s.ai.length≤ 64∧1≤ s.next∧s.next≤ 1099511627776)(h4:∀x∈ s.ax,ei s.ai x=true):cp s=true:= by
 unfold cp;rw[h1,h2,decide_eq_true h3,List.all_eq_true.2 h4];rfl
theorem kC{ts:List aj}{x:aj}(h:ts.Pairwise (fun x y=>x.id< y.id))(hx:x∈ ts):dD ts x.id=some x:=by
 unfold dD
 induction ts with
 |nil=> cases hx
 |cons y l ih=>
  rw[List.pairwise_cons]at h;rw[List.find?_cons];rcases List.mem_cons.1 hx with rfl|hx
  ·simp
  ·have h1:=h.1 x hx;have:(y.id==x.id)=false:= by simp;omega
   rw[this];exact ih h.2 hx
theorem uJ{ts:List aj}{q:aj→ Bool}{id:Int}(h:ts.Pairwise (fun x y=>x.id< y.id)):
 dD (ts.filter q) id=match dD ts id with|some x=>if q x=true then some x else none|none=> none:=by
 cases hf:dD ts id with
 |none=>
  unfold dD at hf ⊢;rw[List.find?_eq_none]at hf ⊢;exact fun x hx=>hf x (List.mem_filter.1 hx).1
 |some x=>
  obtain⟨h1,h2⟩:=ie hf;subst h2;simp only;by_cases hq:q x=true
  ·rw[if_pos hq];exact kC (h.sublist List.filter_sublist) (List.mem_filter.2 ⟨h1,hq⟩)
  ·rw[if_neg hq];unfold dD;rw[List.find?_eq_none];intro y hy hyx;obtain⟨h3,h4⟩:=List.mem_filter.1 hy;have h5:=kC h h3;have h6:y.id= x.id:=by simpa using hyx
   rw[h6]at h5;rw[kC h h1]at h5;simp only[Option.some.injEq]at h5;rw[←h5]at h4;exact hq h4
theorem uj{ts:List aj}{q:aj→ Bool}(h:aZ 0 ts=true):aZ 0 (ts.filter q)=true:= by
 obtain⟨h1,h2⟩:=cJ.1 h;exact cJ.2 ⟨fun x hx=>h1 x (List.mem_filter.1 hx).1,h2.sublist List.filter_sublist⟩
theorem Jj{ls:List aV}{id:Int}(h1:1≤ id)(h2:id≤ 16):qy (je ls) id=bV ls id:=by
 unfold qy je;rw[List.getD_eq_getElem?_getD,List.getElem?_map,List.getElem?_range o_];simp only[Option.map_some,Option.getD_some]
 congr 1;omega
theorem A8{s:St}(h:aZ 0 s.ax=true):(bG s).ax=s.ax.filter (fun x=> !kT (je s.ai) x):=by
 unfold bG jB;rw[if_pos h]
theorem Vz{ts:List aj}{x:aj}(h:aZ 0 ts=true)(hx:x∈ ts):1≤ x.id∧x.id≤ 16:=by
 have h1:=(cJ.1 h).1 x hx;have h2:=h1.2;unfold yq at h2;simp only[Bool.and_eq_true,decide_eq_true_eq]at h2;omega
theorem Ll{ts:List aj}{x:aj}(h:aZ 0 ts=true)(hx:x∈ ts)(hg:x.gone= true):x.aK= 0∧x.aq= 0∧x.bucket= 0:=by
 have h1:=(cJ.1 h).1 x hx;have h2:=h1.2;unfold yq uD at h2;simp only[Bool.and_eq_true,decide_eq_true_eq,hg,Bool.not_true,Bool.false_or]at h2;exact h2.2
def iF(ts:List aj)(id:Int):Int:= (bf ts id).1.bucket
theorem jb{s:St}(h:aZ 0 s.ax=true)(id:Int):iF (bG s).ax id=iF s.ax id:=by
 unfold iF;have h':=uj (q:=fun x=> !kT (je s.ai) x) h;rw[A8 h,fO id h',fO id h,uJ (cJ.1 h).2];cases hf:dD s.ax id with
 |none=> rfl
 |some x=>
  obtain⟨h1,h2⟩:=ie hf;simp only;by_cases hq:(!kT (je s.ai) x)=true
  ·rw[if_pos hq]
  ·rw[if_neg hq];have hg:x.gone= true:=by
    unfold kT at hq;simp only[Bool.not_eq_true,Bool.not_eq_false',Bool.and_eq_true]at hq;exact hq.1
   have:=Ll h h1 hg;simp[iV,this.2.2]
theorem ji{s:St}(h1:aZ 0 s.ax=true)(h2:eu s.ax s.next s.ai=true)(h3:s.ai.length≤ 64∧1≤ s.next∧s.next≤ 1099511627776)(h4:∀x∈ s.ax,ei s.ai x=true):cp (bG s)=true:= by
 have ht:=A8 h1;have hfit:=bU h1 h2;refine yX (by rw[ht];exact uj h1) ?_ h3 (fun x hx=>h4 x (by rw[ht]at hx;exact(List.mem_filter.1 hx).1));obtain⟨h5,h6⟩:=ck.1 h2;refine ck.2 ⟨fun x hx=>⟨(h5 x hx).1,?_⟩,h6⟩;have h7:=(h5 x hx).2;unfold jM at h7 ⊢;simp only[Bool.and_eq_true,decide_eq_true_eq]at h7 ⊢;refine⟨?_,h7.2⟩;have h8:=h7.1;rw[fO _ h1]at h8;rw[ht,fO _ (uj h1),uJ (cJ.1 h1).2];cases hf:dD s.ax x.aC with
 |none=> rw[hf]at h8;cases h8
 |some y=>
  obtain⟨hy1,hy2⟩:=ie hf;simp only;have hid:=Vz h1 hy1;have hout:=Az hfit hx;have hpos:0< bV s.ai x.aC:=o_;have hq:(!kT (je s.ai) y)=true:= by
   unfold kT;rw[Jj hid.1 hid.2,hy2];simp;exact .inr hpos
  rw[if_pos hq]
theorem rJ{ls:List aV}(q:aV→ Bool)(id:Int):Fits ls→bV (ls.filter q) id≤bV ls id:=by
 induction ls with
 |nil=> intro _;exact Int.le_refl _
 |cons y l ih=>
  intro h;have h1:=h y (List.mem_cons_self ..);have h2:=ih fun x hx=>h x (List.mem_cons_of_mem _ hx)
  rw[List.filter_cons]
  split
  ·rw[bV,bV];split<;>omega
  ·rw[bV];split<;>omega
theorem mF{ls ls':List aV}{x:aj}(h:ei ls x=true)(hle:bV ls' x.id≤bV ls x.id):ei ls' x=true:= by
 unfold ei at*;simp only[decide_eq_true_eq]at*;intro h1;have:=h h1;omega
theorem nY{ts:List aj}{next:Int}{ls:List aV}(q:aV→ Bool)(h:eu ts next ls=true):eu ts next (ls.filter q)=true:= by
 obtain⟨h1,h2⟩:=ck.1 h;exact ck.2 ⟨fun x hx=>h1 x (List.mem_filter.1 hx).1,h2.sublist List.filter_sublist⟩
theorem Lf{s:St}(h:cp s=true)(l:List Int):cp (eW s l)=true∧ ∀id,iF (eW s l).ax id+1000* bV (eW s l).ai id≤iF s.ax id+1000* bV s.ai id:=by
 obtain⟨h1,h2,h3,h4⟩:=bI h;have hfit:=bU h1 h2;have he:eW s l=bG {s with ai:=s.ai.filter fun x=> !l.contains x.id}:=by unfold eW;rw[if_pos h]
 rw[he];have hlen:=List.length_filter_le (fun x:aV=> !l.contains x.id) s.ai;refine⟨ji h1 (nY _ h2) ⟨by show(s.ai.filter fun x=> !l.contains x.id).length≤64;omega,h3.2⟩ (fun x hx=>mF (h4 x hx) (rJ _ _ hfit)),fun id=> ?_⟩;rw[jb (s:={s with ai:=s.ai.filter fun x=> !l.contains x.id}) h1];have:=rJ (fun x:aV=> !l.contains x.id) id hfit;show iF s.ax id+1000* bV (s.ai.filter fun x=> !l.contains x.id) id≤_
 omega
def tI(l:List aV):Prop:= l.Pairwise (fun x y=>x.id< y.id)
theorem tI.apart{l:List aV}(h:tI l){i j:Nat}(hi:i< l.length)(hj:j< l.length)(hne:i≠ j):l[i].id≠l[j].id:=by
 have hp:=List.pairwise_iff_getElem.1 h;rcases Nat.lt_or_gt_of_ne hne with h1|h1
 ·have:=hp i j hi hj h1;omega
 ·have:=hp j i hj hi h1;omega
theorem lF{ts:List aj}{next:Int}{ls:List aV}(h:eu ts next ls=true):tI ls:=(ck.1 h).2
theorem zK:∀ {l:List aV} {k:Nat},tI l→∀hk: k<l.length,ib l[k].id l=l.eraseIdx k
 |x:: l,0,h,_=>by
  have h2:=List.pairwise_cons.1 h;show ib x.id (x::l)=l
  unfold ib;rw[List.filter_cons,if_neg (by simp)];refine List.filter_eq_self.2 fun y hy=> ?_
  have:=h2.1 y hy;simp;omega
 |x:: l,k+1,h,hk=>by
  have h2:=List.pairwise_cons.1 h;have hk':k< l.length:=by simpa using hk
  have hm:l[k]∈l:= List.getElem_mem hk';have h3:=h2.1 _ hm;have ih:=zK (l:=l) (k:=k) h2.2 hk';show ib l[k].id (x::l)=x:: l.eraseIdx k
  unfold ib at ih ⊢;rw[List.filter_cons,if_pos (by simp;omega),ih]
theorem GN{l:List aV}{le sp:Int}(h:∀y∈ l,y.id≠le):dP le sp l=l:= by
 unfold dP
 conv=>rhs;rw[←List.map_id l]
 exact List.map_congr_left fun y hy=>by rw[if_neg (h y hy)];rfl
theorem Df:∀ {l:List aV} {k:Nat} {sp:Int},tI l→∀hk: k<l.length,dP l[k].id sp l=l.set k {l[k]with bN:=sp}
 |x:: l,0,sp,h,_=>by
  have h2:=List.pairwise_cons.1 h;show dP x.id sp (x::l)={x with bN:=sp}::l
  have:=GN (l:=l) (le:=x.id) (sp:=sp) (fun y hy=>by have:=h2.1 y hy;omega);unfold dP at this ⊢;rw[List.map_cons,if_pos rfl,this]
 |x:: l,k+1,sp,h,hk=>by
  have h2:=List.pairwise_cons.1 h;have hk':k< l.length:=by simpa using hk
  have hm:l[k]∈l:= List.getElem_mem hk';have h3:=h2.1 _ hm;have ih:=Df (l:=l) (k:=k) (sp:=sp) h2.2 hk';show dP l[k].id sp (x::l)=x:: l.set k {l[k]with bN:=sp}
  unfold dP at ih ⊢;rw[List.map_cons,if_neg o_,ih]
theorem lj{ts:List aj}{id:Int}(h:aZ 0 ts=true):(bf ts id).2=true↔ ∃x,dD ts id=some x:=by
 rw[fO id h];cases dD ts id with
 |none=> simp
 |some x=>simp
theorem lR{ts ts':List aj}{n n':Int}{ls:List aV}(h:eu ts n ls=true)(hn:n≤ n')(hf:∀id,(bf ts id).2=true→ (bf ts' id).2=true):eu ts' n' ls=true:= by
 obtain⟨h1,h2⟩:=ck.1 h;refine ck.2 ⟨fun x hx=>⟨(h1 x hx).1,?_⟩,h2⟩;have h3:=(h1 x hx).2;unfold jM at h3 ⊢;simp only[Bool.and_eq_true,decide_eq_true_eq]at h3 ⊢;exact⟨hf _ h3.1,by omega⟩
theorem A5{ts:List aj}{x:aj}(h:aZ 0 ts=true)(hx:0< x.id)(ho:yq x=true):
 mE ts x=(dE x ts,0)∧aZ 0 (dE x ts)=true∧ dD (dE x ts) x.id=some x∧∀other,other≠x.id→ dD (dE x ts) other=dD ts other:=by
 obtain⟨f1,f2,f3⟩:=ku h hx ho;exact⟨by unfold mE;rw[if_pos ⟨h,f1⟩],f1,f2,f3⟩
theorem nj{ts:List aj}{x:aj}(h:aZ 0 ts=true)(hx:0< x.id)(ho:yq x=true)(id:Int)(hf:(bf ts id).2=true):(bf (dE x ts) id).2=true:= by
 obtain⟨f1,f2,f3⟩:=ku h hx ho;rw[lj f1];by_cases he:id= x.id
 ·exact⟨x,by rw[he];exact f2⟩
 ·rw[f3 id he];exact(lj h).1 hf
theorem vH{ts:List aj}{x y:aj}(h:aZ 0 ts=true)(hx:0< x.id)(ho:yq x=true)(hy:y∈ dE x ts):y= x∨(y∈ts∧ y.id≠x.id):=by
 obtain⟨f1,f2,f3⟩:=ku h hx ho;have h1:=kC (cJ.1 f1).2 hy;by_cases he:y.id= x.id
 ·left;rw[he,f2]at h1;simpa using h1.symm
 ·right;rw[f3 _ he]at h1;exact⟨(ie h1).1,he⟩
theorem rT{ts:List aj}{x:aj}(h:aZ 0 ts=true)(hx:0< x.id)(ho:yq x=true)(id:Int):iF (dE x ts) id=if id=x.id then x.bucket else iF ts id:=by
 obtain⟨f1,f2,f3⟩:=ku h hx ho;unfold iF;rw[fO id f1];by_cases he:id= x.id
 ·rw[if_pos he,he,f2]
 ·rw[if_neg he,f3 id he,fO id h]
theorem kq{x:aj}(h:yq x=true):x.id≤ 16∧mg x.aK x.aq=true∧ 0≤x.bucket∧ x.bucket≤1000000000∧ (x.gone=true→ x.aK=0∧ x.aq=0∧ x.bucket=0):=by
 unfold yq zD vY uD at h;simp only[Bool.and_eq_true,decide_eq_true_eq]at h;refine⟨h.1.1.1,h.1.1.2,h.1.2.1,h.1.2.2,fun hg=> ?_⟩;have:=h.2;rw[hg]at this;simpa using this
theorem Eg{x:aj}(h1:x.id≤ 16)(h2:mg x.aK x.aq=true)(h3:0≤ x.bucket∧x.bucket≤ 1000000000)(h4:x.gone= false):yq x=true:= by
 unfold yq zD vY uD;simp only[Bool.and_eq_true,decide_eq_true_eq,h4];exact⟨⟨⟨h1,h2⟩,h3⟩,rfl⟩
theorem sk{r b:Int}(h:mg r b=true):0≤ r∧r≤ 1000000∧0≤ b∧b≤ 1000000:=by
 unfold mg at h;simpa using h
theorem jk{ls:List aV}{t:aj}:ei ls t=true↔ (0<t.bucket→ t.bucket+1000* bV ls t.id≤1000* t.aq):=by
 unfold ei;exact decide_eq_true_iff
theorem wF{ts:List aj}{id:Int}(h:aZ 0 ts=true)(hf:(bf ts id).2=true):(bf ts id).1∈ts∧ (bf ts id).1.id=id:= by
 obtain⟨x,hx⟩:=(lj h).1 hf;rw[fO id h,hx];exact ie hx
theorem zR{s:St}(h:cp s=true)(sh ep nu te sz:Int):cp (cV s sh ep nu te sz).1=true∧
 (∀id,iF (cV s sh ep nu te sz).1.ax id+1000* bV (cV s sh ep nu te sz).1.ai id=iF s.ax id+1000* bV s.ai id)∧
 ((cV s sh ep nu te sz).2.e=0→ bV (cV s sh ep nu te sz).1.ai te=bV s.ai te+sz):=by
 obtain⟨h1,h2,h3,h4⟩:=bI h;have I0:∀e: Int,e≠0→ cp (bG s,bS.err e).1=true∧ (∀id,iF (bG s,bS.err e).1.ax id+1000* bV (bG s,bS.err e).1.ai id=iF s.ax id+1000* bV s.ai id)∧
  ((bG s,bS.err e).2.e=0→ bV (bG s,bS.err e).1.ai te=bV s.ai te+sz):=fun e he=>
  ⟨ji h1 h2 h3 h4,fun id=>by simp only;rw[jb h1];rfl,fun h0=>absurd h0 he⟩
 unfold cV;rw[if_neg (by rw[h];simp)];by_cases c1:jo sh ep nu sz
 ·rw[if_pos c1];exact I0 2 d_
 rw[if_neg c1];by_cases c2:(bf s.ax te).2=false∨ (bf s.ax te).1.gone=true
 ·rw[if_pos c2];exact I0 161 d_
 rw[if_neg c2];by_cases c3:64≤ s.ai.length∨1099511627776≤ s.next
 ·rw[if_pos c3];exact I0 100 d_
 rw[if_neg c3];by_cases c4:(gi (bf s.ax te).1.bucket sz).2≠0
 ·rw[if_pos c4];exact I0 _ c4
 rw[if_neg c4];simp only[not_or,Bool.not_eq_false,Bool.not_eq_true]at c2;unfold jo at c1;have htk:gi (bf s.ax te).1.bucket sz=((bf s.ax te).1.bucket-1000* sz,0)∧1000* sz≤(bf s.ax te).1.bucket:=by
  unfold gi at c4 ⊢
  split at c4
  ·exact absurd d_ c4
  ·rename_i hc
   rw[if_neg hc];exact⟨rfl,by omega⟩
 obtain⟨htk,hle⟩:=htk;rw[htk];obtain⟨m1,m2⟩:=wF h1 c2.1;have hok:=(cJ.1 h1).1 _ m1;have hbk:iF s.ax te=(bf s.ax te).1.bucket:=rfl;generalize(bf s.ax te).1=x at*;obtain⟨p1,p2,p3,p4,p5⟩:=kq hok.2;have hid:0< ({x with bucket:=x.bucket- 1000*sz}:aj).id:=hok.1;have hko:yq {x with bucket:=x.bucket- 1000*sz}=true:= Eg p1 p2 ⟨by show 0≤x.bucket- 1000*sz;omega,by show x.bucket-1000* sz≤_;omega⟩ c2.2;obtain⟨f0,f1,f2,f3⟩:=A5 h1 hid hko;simp only;rw[f0];have hout:∀id,bV (s.ai++[⟨s.next,te,sh,ep,nu,sz,0⟩]) id=bV s.ai id+if te=id then sz else 0:=fun id=>by
  rw[xL];simp[bV]
 have hfit:=bU h1 h2;refine⟨ji f1 ?_ ⟨by simp;omega,by show 1≤s.next+ 1;omega,by show s.next+1≤ _;omega⟩ ?_,fun id=> ?_,fun _=> ?_⟩
 ·show eu (dE _ s.ax) (s.next+1) (s.ai++[_])=true
  obtain⟨l1,l2⟩:=ck.1 (lR h2 (show s.next≤s.next+ 1 by omega) (nj h1 hid hko));refine ck.2 ⟨fun y hy=> ?_,?_⟩
  ·rcases List.mem_append.1 hy with hy|hy
   ·exact l1 y hy
   ·rw[List.mem_singleton.1 hy];refine⟨by show 0<s.next;omega,?_⟩;unfold jM;simp only[Bool.and_eq_true,decide_eq_true_eq];exact⟨nj h1 hid hko te c2.1,by omega⟩
  ·refine List.pairwise_append.2 ⟨l2,List.pairwise_singleton _ _,fun y hy z hz=> ?_⟩;rw[List.mem_singleton.1 hz];have:=((ck.1 h2).1 y hy).2;unfold jM at this;simp only[Bool.and_eq_true,decide_eq_true_eq]at this;exact this.2.1
 ·intro y hy;show ei (s.ai++[_]) y=true
  rw[jk,hout];rcases vH h1 hid hko hy with rfl|⟨hy,hne⟩
  ·have h5:=jk.1 (h4 _ m1);simp only at h5 ⊢;intro _;rw[if_pos m2.symm];have:=h5 o_;omega
  ·have h5:=jk.1 (h4 _ hy);rw[if_neg (by simp only at hne;omega)];simpa using h5
 ·show iF (bG {s with ax:=dE {x with bucket:=x.bucket- 1000*sz} s.ax,ai:=s.ai++ [⟨s.next,te,sh,ep,nu,sz,0⟩],next:=s.next+ 1}).ax id+1000* bV (s.ai++[⟨s.next,te,sh,ep,nu,sz,0⟩]) id=_
  rw[jb f1,hout];show iF (dE {x with bucket:=x.bucket- 1000*sz} s.ax) id+_= _
  rw[rT h1 hid hko];simp only;by_cases he:id= x.id
  ·rw[if_pos he,if_pos o_];have:iF s.ax id=x.bucket:= by rw[he,m2];exact hbk
   omega
  ·rw[if_neg he,if_neg o_];omega
 ·show bV (s.ai++[⟨s.next,te,sh,ep,nu,sz,0⟩]) te=_
  rw[hout,if_pos rfl]
theorem AA{le sp:Int}(id:Int):∀ {l:List aV},(∀y∈ l,y.id=le→ y.bN≤sp)→bV (dP le sp l) id≤bV l id
 |[],_=>Int.le_refl _
 |y:: l,h=>by
  have h1:=h y (List.mem_cons_self ..);have h2:=AA (le:=le) (sp:=sp) id (fun z hz=>h z (List.mem_cons_of_mem _ hz));unfold dP at h2 ⊢;rw[List.map_cons,bV,bV];by_cases he:y.id= le
  ·rw[if_pos he];have:=h1 he;simp only
   split<;>omega
  ·rw[if_neg he];omega
theorem sy{l:List aV}(h:tI l){x y:aV}(hx:x∈ l)(hy:y∈ l)(he:x.id= y.id):x= y:=by
 obtain⟨i,hi,rfl⟩:=List.mem_iff_getElem.1 hx;obtain⟨j,hj,rfl⟩:=List.mem_iff_getElem.1 hy;by_cases hij:i= j
 ·subst hij;rfl
 ·exact absurd he (h.apart hi hj hij)
theorem uS{ts:List aj}{n:Int}{ls:List aV}{x:aV}{sp:Int}(h:eu ts n ls=true)(hx:x∈ ls)(h1:x.bN≤ sp)(h2:sp< x.size):eu ts n (dP x.id sp ls)=true:= by
 obtain⟨c1,c2⟩:=ck.1 h;refine ck.2 ⟨fun y hy=> ?_,?_⟩
 ·unfold dP at hy;obtain⟨z,hz,rfl⟩:=List.mem_map.1 hy;have h3:=c1 z hz;by_cases he:z.id= x.id
  ·rw[if_pos he];have:=sy (lF h) hz hx he;subst this;unfold jM at h3 ⊢;simp only[Bool.and_eq_true,decide_eq_true_eq]at h3 ⊢;exact⟨h3.1,h3.2.1,by omega⟩
  ·rw[if_neg he];exact h3
 ·unfold dP;rw[List.pairwise_map];refine c2.imp fun{a b} hab=> ?_
  split<;>split<;>simpa using hab
theorem L3{l:List aV}{x:aV}(id:Int)(h:tI l)(hx:x∈ l):bV l id=bV (ib x.id l) id+if x.aC=id then x.size-x.bN else 0:=by
 induction l with
 |nil=> cases hx
 |cons y l ih=>
  have h2:=List.pairwise_cons.1 h;unfold ib at ih ⊢;rw[List.filter_cons,bV];rcases List.mem_cons.1 hx with rfl|hx
  ·rw[if_neg (show ¬((!decide (x.id=x.id))=true) by simp)];have:(l.filter fun y=> !decide (y.id=x.id))=l:= List.filter_eq_self.2 fun y hy=>by have:=h2.1 y hy;simp;omega
   rw[this];omega
  ·have:=h2.1 x hx;rw[if_pos (show(!decide (y.id=x.id))=true by simp;omega),bV,ih h2.2 hx];omega
theorem Iz{l:List aV}{sh ep le:Int}{x:aV}(h:l.find? (gV sh ep le)=some x):x∈ l∧x.id= le∧x.ak= sh∧x.aM= ep:=by
 have h1:=List.find?_some h;unfold gV at h1;exact⟨List.mem_of_find?_eq_some h,by simpa using h1⟩
theorem wO{ts:List aj}{n:Int}{ls:List aV}{x:aV}(h:eu ts n ls=true)(hx:x∈ ls):(bf ts x.aC).2=true∧ 1≤x.size∧ x.size≤1000000∧ 0≤x.bN∧ x.bN<x.size:= by
 have:=((ck.1 h).1 x hx).2;unfold jM at this;simp only[Bool.and_eq_true,decide_eq_true_eq]at this;exact⟨this.1,by omega⟩
theorem zJ{b aq out:Int}(h2:0≤ aq∧aq≤ 1000000)(ho:0≤ out)(h:0< gF b aq out):gF b aq out+1000* out≤1000* aq:=by
 have h1:=(pK b aq out).2;generalize gF b aq out=c at*;unfold qA bL at h1;omega
theorem L9{s:St}(h:cp s=true)(sh ep le sp:Int)(cl:Bool):cp (dN s sh ep le sp cl).1=true∧
 ∀id,iF (dN s sh ep le sp cl).1.ax id+1000* bV (dN s sh ep le sp cl).1.ai id≤iF s.ax id+1000* bV s.ai id:=by
 obtain⟨h1,h2,h3,h4⟩:=bI h;have I0:∀e: Int,cp (bG s,e).1=true∧ (∀id,iF (bG s,e).1.ax id+1000* bV (bG s,e).1.ai id≤iF s.ax id+1000* bV s.ai id):=fun e=>
  ⟨ji h1 h2 h3 h4,fun id=>by simp only;rw[jb h1];exact Int.le_refl _⟩
 unfold dN;rw[if_neg (by rw[h];simp)];cases hf:s.ai.find? (gV sh ep le)with
 |none=> exact I0 180
 |some x=>
  simp only;obtain⟨hx,rfl,-,-⟩:=Iz hf;obtain⟨q1,q2,q3,q4,q5⟩:=wO h2 hx;have hfit:=bU h1 h2;have hris:=lF h2;by_cases c1:sp< x.bN∨x.size< sp
  ·rw[if_pos c1];exact I0 2
  rw[if_neg c1];by_cases c2:cl= false∧sp< x.size
  ·rw[if_pos c2];have hsp:∀id,bV (dP x.id sp s.ai) id≤bV s.ai id:=fun id=>AA id fun y hy he=>by
    have:=sy hris hy hx he;subst this;omega
   have hlen:(dP x.id sp s.ai).length=s.ai.length:= by unfold dP;exact List.length_map _
   refine⟨ji h1 (uS h2 hx o_ c2.2) ⟨by show(dP x.id sp s.ai).length≤64;omega,h3.2⟩ (fun y hy=>mF (h4 y hy) (hsp _)),fun id=> ?_⟩;rw[jb (s:={s with ai:=dP x.id sp s.ai}) h1];have:=hsp id;show iF s.ax id+1000* bV (dP x.id sp s.ai) id≤_
   omega
  rw[if_neg c2];have hlen:=List.length_filter_le (fun y:aV=> !decide (y.id=x.id)) s.ai;have hdr:∀id,bV (ib x.id s.ai) id≤bV s.ai id:=fun id=>rJ _ id hfit
  by_cases c3:cl= true∧(bf s.ax x.aC).1.gone=false
  ·rw[if_pos c3];obtain⟨m1,m2⟩:=wF h1 q1;have hok:=(cJ.1 h1).1 _ m1;have hbk:iF s.ax x.aC=(bf s.ax x.aC).1.bucket:=rfl;have hgo:=c3.2;have hob:=L3 x.aC hris hx;rw[if_pos rfl]at hob;have kH:=fM x.aC (hfit.sub (m:=ib x.id s.ai) fun y hy=>(List.mem_filter.1 hy).1);unfold CK;generalize(bf s.ax x.aC).1=t at*;obtain⟨p1,p2,p3,p4,p5⟩:=kq hok.2;have Rm:=sk p2;have hbb:iy t.bucket t.aq (bV (ib x.id s.ai) x.aC) (x.size-sp)=gF (t.bucket+1000* (x.size-sp)) t.aq (bV (ib x.id s.ai) x.aC):=by
    unfold iy;have e1:bL t.bucket 0 2305843009213693952=t.bucket:= by unfold bL;omega
    have e2:bL (x.size-sp) 0 1000000=x.size- sp:=by unfold bL;omega
    rw[e1,e2]
   rw[hbb];have hc1:=pK (t.bucket+1000* (x.size-sp)) t.aq (bV (ib x.id s.ai) x.aC);have hc2:=iA t.aq (bV (ib x.id s.ai) x.aC);have hc3:=DJ (t.bucket+1000* (x.size-sp)) t.aq (bV (ib x.id s.ai) x.aC) o_;have hc4:=fun hp=>zJ (b:=t.bucket+ 1000*(x.size-sp)) (out:=bV (ib x.id s.ai) x.aC) Rm.2.2 kH.1 hp
   generalize hcu:gF (t.bucket+1000* (x.size-sp)) t.aq (bV (ib x.id s.ai) x.aC)=c at*;have hid:0< ({t with bucket:=c}:aj).id:=hok.1;have hko:yq {t with bucket:=c}=true:= Eg p1 p2 ⟨hc1.1,by show c≤_;omega⟩ hgo;obtain⟨f0,f1,f2,f3⟩:=A5 h1 hid hko;rw[f0];refine⟨ji f1 (nY _ (lR h2 (Int.le_refl _) (nj h1 hid hko))) ⟨by show(s.ai.filter _).length≤64;omega,h3.2⟩ ?_,fun id=> ?_⟩
   ·intro y hy;show ei (ib x.id s.ai) y=true
    rcases vH h1 hid hko hy with rfl|⟨hy,hne⟩
    ·rw[jk];simp only;intro hp;rw[m2];exact hc4 hp
    ·exact mF (h4 y hy) (hdr _)
   ·show iF (bG {s with ai:=ib x.id s.ai,ax:=dE {t with bucket:=c} s.ax}).ax id+1000* bV (ib x.id s.ai) id≤_
    rw[jb f1];show iF (dE {t with bucket:=c} s.ax) id+_≤ _
    rw[rT h1 hid hko];simp only;by_cases he:id= t.id
    ·rw[if_pos he];have e3:id= x.aC:=o_;subst e3;omega
    ·rw[if_neg he];have:=hdr id;omega
  ·rw[if_neg c3];refine⟨ji h1 (nY _ h2) ⟨by show(s.ai.filter _).length≤64;omega,h3.2⟩ (fun y hy=>mF (h4 y hy) (hdr _)),fun id=> ?_⟩;rw[jb (s:={s with ai:=ib x.id s.ai,ax:=s.ax}) h1];have:=hdr id;show iF s.ax id+1000* bV (ib x.id s.ai) id≤_
   omega
theorem rq(ls:List aV)(k:Int)(t:aj):(eB ls k t).id=t.id∧ (eB ls k t).gone=t.gone∧ (eB ls k t).aK=t.aK∧ (eB ls k t).aq=t.aq:= by
 unfold eB;split<;>exact ⟨rfl,rfl,rfl,rfl⟩
theorem wE{f:aj→ aj}(hf:∀t,(f t).id=t.id)(id:Int):∀ts: List aj,dD (ts.map f) id=(dD ts id).map f
 |[]=>rfl
 |x:: l=>by
  have ih:=wE hf id l;unfold dD at ih ⊢;rw[List.map_cons,List.find?_cons,List.find?_cons,hf]
  split
  ·rfl
  ·exact ih
theorem rp{t:aj}{out k:Int}(h:yq t=true)(hk:0≤ k)(hk2:k≤ 1099511627776)(ho:0≤ out):
 0≤dH t.bucket t.aK t.aq out k∧dH t.bucket t.aK t.aq out k≤1000000000∧ dH t.bucket t.aK t.aq out k≤t.bucket+ t.aK*k∧
 (0<dH t.bucket t.aK t.aq out k→dH t.bucket t.aK t.aq out k+1000* out≤1000* t.aq):=by
 obtain⟨p1,p2,p3,p4,p5⟩:=kq h;have Rm:=sk p2;have e1:bL t.bucket 0 2305843009213693952=t.bucket:= by unfold bL;omega
 have e2:bL t.aK 0 1000000=t.aK:= by unfold bL;omega
 have e3:bL k 0 1099511627776=k:= by unfold bL;omega
 unfold dH;rw[e1,e2,e3];have hp:0≤ t.aK*k:= Int.mul_nonneg Rm.1 hk;generalize t.aK*k= m at*;have hc1:=pK (t.bucket+m) t.aq out;have hc2:=iA t.aq out;exact⟨hc1.1,by omega,DJ _ _ _ o_,fun hp=>zJ Rm.2.2 ho hp⟩
theorem GS{ts:List aj}{ls:List aV}{k:Int}(h:aZ 0 ts=true)(hk:0≤ k)(hk2:k≤ 1099511627776)(hf:Fits ls):aZ 0 (ts.map (eB ls k))=true:= by
 obtain⟨h1,h2⟩:=cJ.1 h;refine cJ.2 ⟨fun y hy=> ?_,?_⟩
 ·obtain⟨x,hx,rfl⟩:=List.mem_map.1 hy;obtain⟨h3,h4⟩:=h1 x hx;refine⟨by rw[(rq _ _ _).1];exact h3,?_⟩;unfold eB
  split
  ·exact h4
  ·rename_i hg
   obtain⟨p1,p2,p3,p4,p5⟩:=kq h4;obtain⟨c1,c2,-,-⟩:=rp h4 hk hk2 (fM x.id hf).1;exact Eg p1 p2 ⟨c1,c2⟩ (by simpa using hg)
 ·rw[List.pairwise_map];exact h2.imp fun{a b} hab=>by rw[(rq _ _ _).1,(rq _ _ _).1];exact hab
theorem Ih{ts:List aj}{ls:List aV}{k:Int}(h:aZ 0 ts=true)(h':aZ 0 (ts.map (eB ls k))=true)(id:Int)(hf:(bf ts id).2=true):(bf (ts.map (eB ls k)) id).2=true:= by
 rw[lj h'];obtain⟨x,hx⟩:=(lj h).1 hf;exact⟨eB ls k x,by rw[wE (fun t=>(rq _ _ t).1),hx];rfl⟩
theorem KY{s:St}(h:cp s=true)(k:Int)(hk:0≤ k)(hk2:k≤ 1099511627776):cp (dA s k)=true∧ (dA s k).ai=s.ai∧
 ∀id,iF (dA s k).ax id≤iF s.ax id+(bf s.ax id).1.aK*k:= by
 obtain⟨h1,h2,h3,h4⟩:=bI h;have hfit:=bU h1 h2;have h1':=GS h1 hk hk2 hfit;have he:dA s k=bG {s with ax:=s.ax.map (eB s.ai k)}:=by unfold dA;rw[if_pos h]
 rw[he];refine⟨ji h1' (lR h2 (Int.le_refl _) (Ih h1 h1')) h3 ?_,rfl,fun id=> ?_⟩
 ·intro y hy;obtain⟨x,hx,rfl⟩:=List.mem_map.1 hy;show ei s.ai _=true
  have h5:=((cJ.1 h1).1 x hx).2;unfold eB
  split
  ·exact h4 x hx
  ·rw[jk];exact(rp h5 hk hk2 (fM x.id hfit).1).2.2.2
 ·rw[jb (s:={s with ax:=s.ax.map (eB s.ai k)}) h1'];unfold iF;simp only;rw[fO id h1',fO id h1,wE (fun t=>(rq _ _ t).1)];cases hf:dD s.ax id with
  |none=> simp[iV]
  |some x=>
   have h5:=((cJ.1 h1).1 x (ie hf).1).2;show(eB s.ai k x).bucket≤x.bucket+ x.aK*k
   unfold eB
   split
   ·have:=Int.mul_nonneg (sk (kq h5).2.1).1 hk;omega
   ·exact(rp h5 hk hk2 (fM x.id hfit).1).2.2.1
theorem Fw{α:Type}{l:List α}{p:α→ Bool}{x:α}(hx:x∈ l)(hp:p x=true)(hu:∀y∈ l,p y=true→ y=x):l.find? p=some x:=by
 cases h:l.find? p with
 |none=> exact absurd hp (by simpa using List.find?_eq_none.1 h x hx)
 |some y=>rw [hu y (List.mem_of_find?_eq_some h) (List.find?_some h)]
theorem oa(le v:Int)(l:List aV):(dP le v l).length=l.length:= by unfold dP;exact List.length_map _
theorem Iu{s:St}{le:Int}{x:aV}(h:fE s le=(x,true)):cp s=true∧ x∈s.ai∧ x.id=le:= by
 unfold fE at h;by_cases hok:cp s=true
 ·rw[if_pos hok]at h;cases hf:pN s le with
  |none=> rw[hf]at h;simp at h
  |some y=>
   rw[hf]at h;simp only[Prod.mk.injEq,and_true]at h;subst h;exact⟨hok,wD hf⟩
 ·rw[if_neg hok]at h;simp at h
end Go.Proofs.YtfdmhpohfjbpfaaGreat
