import Derived.Lib.Mul64
import Derived.Laws.Bits64b
import Derived.Test.YtfdmhpohfjbpfaaGreatSr06
import Derived.Test.YtfdmhpohfjbpfaaGreatSrWirCmd
set_option linter.unusedVariables false
set_option linter.unusedSimpArgs false
namespace Go.Proofs.YtfdmhpohfjbpfaaGreat
set_option maxHeartbeats 16000000
def rW(d:bR):Bool:= decide (d.ak≤8)&&(decide (1≤d.aM)&&decide (1≤d.number))
def eV(l:List bR):Bool:= eU bR.ak rW 0 l
def bX(s:St):Bool:= decide (0≤s.term∧ 0≤s.ag)&&(dg s.cd&&(cp s&&eV s.aP))
def iR(s:St)(x:iD):Int:= if x.term=s.term then max (x.ag-s.ag) 0 else 0
def gZ(s:St)(x:iD):St:= {dA s (iR s x)with term:=x.term,ag:=x.ag}
def Ei(s:St)(c:cR):St× bS:=({s with ax:=(qI s.ax c.aC c.aK c.aq (bV s.ai c.aC)).1},(qI s.ax c.aC c.aK c.aq (bV s.ai c.aC)).2)
def DU(s:St)(c:cR):St× bS:=(s,ma s.ax c.aC)
def DL(s:St)(c:cR):St× bS:=({s with ax:=(gp s.ax c.aC (bV s.ai c.aC)).1},(gp s.ax c.aC (bV s.ai c.aC)).2)
def Gd(c:cR)(r:St× bS):St× bS:=({r.1 with cd:=(mX r.1.cd c.aA c.number r.2).1},r.2)
def eF(f:St→ cR→St× bS)(s:St)(c:cR):St× bS:=
 if(mr s.cd c.aA c.number).2.2≠0 then(s,bS.err (mr s.cd c.aA c.number).2.2)
 else if(mr s.cd c.aA c.number).2.1=false then(s,(mr s.cd c.aA c.number).1)
 else Gd c (f s c)
def gf(s:St)(c:cR):St× bS:=
 ({(cV s c.ak c.aM c.number c.aC c.size).1 with aP:=iw bR.ak ⟨c.ak,c.aM,c.number,(cV s c.ak c.aM c.number c.aC c.size).2⟩ (cV s c.ak c.aM c.number c.aC c.size).1.aP},
  (cV s c.ak c.aM c.number c.aC c.size).2)
def dI(c:cR):Prop:= c.ak<1∨ 8<c.ak∨ c.aM<1∨ c.number<1
instance (c:cR):Decidable (dI c):=by unfold dI;infer_instance
def iU(c:cR)(d:bR):Prop:= c.aM<d.aM∨ (c.aM=d.aM∧ c.number<d.number)
instance (c:cR) (d:bR):Decidable (iU c d):=by unfold iU;infer_instance
def ia(c:cR)(d:bR):Prop:= c.aM=d.aM∧ c.number=d.number
instance (c:cR) (d:bR):Decidable (ia c d):=by unfold ia;infer_instance
def fF(s:St)(c:cR):St× bS:=
 if dI c then(s,bS.err 2)
 else match fN bR.ak s.aP c.ak with
  |none=> gf s c
  |some d=>if iU c d then(s,bS.err 150)else if ia c d then(s,d.answer)else gf s c
def pZ(s:St)(c:cR):St× bS:=((dN s c.ak c.aM c.bW c.bN c.closed).1,bS.err (dN s c.ak c.aM c.bW c.bN c.closed).2)
def pM(s:St)(c:cR):St× bS:=(eW s c.bp,bS.err 0)
def EM(s:St)(c:cR):St× bS:=
 if c.kind=1 then eF Ei s c else if c.kind=2 then eF DU s c else if c.kind=3 then eF DL s c
 else if c.kind=4 then fF s c else if c.kind=5 then pZ s c else if c.kind=6 then pM s c else(s,bS.err 2)
def qz(x:iD):cR× Nat×Int:= lT xk ni x.data
def eT(s:St)(x:iD):St× bS:=
 if bX s=false∨ x.term<1∨ x.ag<0∨ x.kind<0∨ 2<x.kind then(s,bS.err 2)
 else if x.kind≠2 then(gZ s x,bS.err 0)
 else if(qz x).2.2≠0 then(gZ s x,bS.err 2)
 else EM (gZ s x) (qz x).1
def fV(s:St):List iD→St× List bS
 |[]=>(s,[])
 |x:: l=>((fV (eT s x).1 l).1,(eT s x).2::(fV (eT s x).1 l).2)
def sN:St:= ⟨0,0,1,[],[],[],[]⟩
theorem bJ{s:St}(h:bX s=true):0≤ s.term∧0≤ s.ag∧dg s.cd=true∧ cp s=true∧ eV s.aP=true:= by
 unfold bX at h;simp only[Bool.and_eq_true,decide_eq_true_eq]at h;exact⟨h.1.1,h.1.2,h.2.1,h.2.2.1,h.2.2.2⟩
theorem ng{s:St}(h1:0≤ s.term)(h2:0≤ s.ag)(h3:dg s.cd=true)(h4:cp s=true)(h5:eV s.aP=true):bX s=true:= by
 unfold bX;rw[decide_eq_true ⟨h1,h2⟩,h3,h4,h5];rfl
theorem vZ{α:Type}{key:α→ Int}{good:α→ Bool}{m:Int}(hg:∀x,good x=true→ key x≤m):∀ {l:List α} {a:Int},a≤m→ eU key good a l=true→ a+l.length≤ m
 |[],a,ha,_=>by simpa using ha
 |x:: l,a,ha,h=>by
  rw[eU,Bool.and_eq_true,Bool.and_eq_true,decide_eq_true_eq]at h;have:=vZ hg (hg x h.1.2) h.2;rw[List.length_cons];omega
theorem QX{l:List bR}(h:eV l=true):l.length≤ 8:=by
 have:=vZ (m:=8) (fun x hx=>by unfold rW at hx;simp only[Bool.and_eq_true,decide_eq_true_eq]at hx;exact hx.1) o_ h;omega
theorem RU{l:List aD}(h:dg l=true):l.length≤ 16:=by
 have:=vZ (m:=16) (fun x hx=>by unfold sA at hx;simp only[Bool.and_eq_true,decide_eq_true_eq]at hx;exact hx.1) o_ h;omega
theorem Ke:∀ {ts:List aj} {a:Int},a≤16→ aZ a ts=true→ a+ts.length≤ 16
 |[],a,ha,_=>by simpa using ha
 |x:: l,a,ha,h=>by
  rw[aZ,Bool.and_eq_true]at h;obtain⟨h1,h2⟩:=Di.1 h.1;have:=Ke (kq h2).1 h.2;rw[List.length_cons];omega
structure Small(s:St):Prop where
 cD:s.ax.length≤ 301
 cG:s.ai.length≤ 301
 eY:s.cd.length≤ 301
 ft:s.aP.length≤ 301
theorem fp{s:St}(h:bX s=true):Small s:=by
 obtain⟨_,_,h3,h4,h5⟩:=bJ h;obtain⟨g1,_,g3,_⟩:=bI h4;have:=Ke (a:=0) o_ g1;have:=RU h3;have:=QX h5;exact⟨by omega,by omega,by omega,by omega⟩
theorem DI(s:St)(k:Int)(hk:0≤ k):dA s k=dA s (min k 1099511627776):=by
 unfold dA eB dH;rw[show bL (min k 1099511627776) 0 1099511627776=bL k 0 1099511627776 by unfold bL;omega]
theorem ED(s:St)(x:iD):0≤ iR s x:=by unfold iR;split<;>omega
theorem Fk{s:St}(h:cp s=true)(x:iD):cp (dA s (iR s x))=true∧ (dA s (iR s x)).ai=s.ai∧ ∀id,iF (dA s (iR s x)).ax id≤iF s.ax id+(bf s.ax id).1.aK*min (iR s x) 1099511627776:=by
 have h0:=ED s x;rw[DI s _ h0];exact KY h _ o_ o_
theorem Fi(s:St)(k:Int):(dA s k).term=s.term∧ (dA s k).ag=s.ag∧ (dA s k).next=s.next∧ (dA s k).cd=s.cd∧ (dA s k).aP=s.aP:= by
 unfold dA
 split
 ·exact⟨rfl,rfl,rfl,rfl,rfl⟩
 ·exact⟨rfl,rfl,rfl,rfl,rfl⟩
theorem mU(s:St)(sh ep nu te sz:Int):(cV s sh ep nu te sz).1.term=s.term∧ (cV s sh ep nu te sz).1.ag=s.ag∧ (cV s sh ep nu te sz).1.cd=s.cd∧ (cV s sh ep nu te sz).1.aP=s.aP:= by
 unfold cV
 repeat' split
 all_goals exact⟨rfl,rfl,rfl,rfl⟩
theorem xQ(s:St)(sh ep le sp:Int)(cl:Bool):(dN s sh ep le sp cl).1.term=s.term∧ (dN s sh ep le sp cl).1.ag=s.ag∧ (dN s sh ep le sp cl).1.cd=s.cd∧ (dN s sh ep le sp cl).1.aP=s.aP:= by
 unfold dN
 repeat' split
 all_goals exact⟨rfl,rfl,rfl,rfl⟩
theorem xy(s:St)(l:List Int):(eW s l).term=s.term∧ (eW s l).ag=s.ag∧ (eW s l).cd=s.cd∧ (eW s l).aP=s.aP:= by
 unfold eW
 split
 ·exact⟨rfl,rfl,rfl,rfl⟩
 ·exact⟨rfl,rfl,rfl,rfl⟩
theorem ru{s:St}(h:bX s=true){x:iD}(h1:1≤ x.term)(h2:0≤ x.ag):bX (gZ s x)=true:= by
 obtain⟨g1,g2,g3,g4,g5⟩:=bJ h;obtain⟨r1,r2,r3,r4,r5⟩:=Fi s (iR s x);refine ng (by show 0≤x.term;omega) h2 (by show dg (dA s (iR s x)).cd=true;rw[r4];exact g3) ?_ (by show eV (dA s (iR s x)).aP=true;rw[r5];exact g5);exact(Fk g4 x).1
theorem Vm{s:St}(h:cp s=true)(id aK aq:Int):cp {s with ax:=(qI s.ax id aK aq (bV s.ai id)).1}=true∧ ∀i,iF (qI s.ax id aK aq (bV s.ai id)).1 i≤iF s.ax i:=by
 obtain⟨h1,h2,h3,h4⟩:=bI h;have hfit:=bU h1 h2;have ho:=fM id hfit;unfold qI;rw[if_neg (by rw[h1];simp)];by_cases c1:id< 1∨16< id
 ·rw[if_pos c1];exact⟨h,fun _=>Int.le_refl _⟩
 rw[if_neg c1];cases c2:mg aK aq with
 |false=> rw[if_pos rfl];exact⟨h,fun _=>Int.le_refl _⟩
 |true=>
  rw[if_neg (by simp)];have hm:=sk c2;have hb:=uK id h1;have hb2:=sS id h1;have hr:=pK (bf s.ax id).1.bucket aq (max (bV s.ai id) 0);have hr2:=iA aq (max (bV s.ai id) 0);have hx:yq ⟨id,aK,aq,gF (bf s.ax id).1.bucket aq (max (bV s.ai id) 0),false⟩=true:= Eg (by show id≤16;omega) c2 (by show 0≤gF _ _ _∧gF _ _ _≤1000000000;omega) rfl;have hid:0< (⟨id,aK,aq,gF (bf s.ax id).1.bucket aq (max (bV s.ai id) 0),false⟩:aj).id:=by show 0<id;omega
  obtain⟨f1,f2,f3⟩:=ku h1 hid hx;refine⟨yX f1 (lR h2 (Int.le_refl _) (fun i hi=>nj h1 hid hx i hi)) h3 (fun y hy=> ?_),fun i=> ?_⟩
  ·rcases vH h1 hid hx hy with rfl|⟨hy1,_⟩
   ·rw[jk];intro hp;simp only at hp ⊢;rw[show max (bV s.ai id) 0=bV s.ai id by omega]at hp ⊢;exact zJ ⟨hm.2.2.1,hm.2.2.2⟩ ho.1 hp
   ·exact h4 y hy1
  ·rw[rT h1 hid hx]
   split
   ·rename_i e
    have:=DJ (bf s.ax id).1.bucket aq (max (bV s.ai id) 0) o_;subst e;exact this
   ·exact Int.le_refl _
theorem UC{s:St}(h:cp s=true)(id:Int):cp {s with ax:=(gp s.ax id (bV s.ai id)).1}=true∧ ∀i,iF (gp s.ax id (bV s.ai id)).1 i≤iF s.ax i:=by
 obtain⟨h1,h2,h3,h4⟩:=bI h;have hfit:=bU h1 h2;have ho:=fM id hfit;have hbk:∀i,0≤iF s.ax i:=fun i=>by unfold iF;rw[uK i h1];exact sS i h1
 unfold gp;by_cases he:(ma s.ax id).e=0
 ·rw[if_neg (by simpa using he)];have hid:0< id∧id≤ 16:=by
   rw[Q8 id h1]at he;cases hf:dD s.ax id with
   |none=> rw[hf]at he;cases he
   |some x=>
    obtain⟨q1,q2⟩:=ie hf;have q3:=(cJ.1 h1).1 x q1;have q4:=(kq q3.2).1;omega
  by_cases hout:0< bV s.ai id
  ·rw[if_pos hout];have hx:yq ⟨id,0,0,0,true⟩=true:= by unfold yq zD vY uD;simp only[Bool.and_eq_true,decide_eq_true_eq];exact⟨⟨⟨hid.2,rfl⟩,by omega⟩,rfl⟩
   have Re:0< (⟨id,0,0,0,true⟩:aj).id:=hid.1;obtain⟨f1,f2,f3⟩:=ku h1 Re hx;refine⟨yX f1 (lR h2 (Int.le_refl _) (fun i hi=>nj h1 Re hx i hi)) h3 (fun y hy=> ?_),fun i=> ?_⟩
   ·rcases vH h1 Re hx hy with rfl|⟨hy1,_⟩
    ·rw[jk];intro hp;exact absurd hp (by show ¬(0:Int)<0;omega)
    ·exact h4 y hy1
   ·rw[rT h1 Re hx]
    split
    ·exact hbk i
    ·exact Int.le_refl _
  ·rw[if_neg hout];obtain⟨f1,f2,f3⟩:=Be id h1;have hno:∀x∈ s.ai,x.aC≠id:= fun x hx e=>by
    have:=Az hfit hx;have h5:=wO h2 hx;rw[e]at this;omega
   refine⟨yX f1 ?_ h3 (fun y hy=> ?_),fun i=> ?_⟩
   ·obtain⟨l1,l2⟩:=ck.1 h2;refine ck.2 ⟨fun x hx=>⟨(l1 x hx).1,?_⟩,l2⟩;have h6:=(l1 x hx).2;unfold jM at h6 ⊢;simp only[Bool.and_eq_true,decide_eq_true_eq]at h6 ⊢;refine⟨?_,h6.2⟩;rw[lj f1,f3 _ (hno x hx)];exact(lj h1).1 h6.1
   ·have h7:=kC (cJ.1 f1).2 hy;by_cases e:y.id= id
    ·rw[e,f2]at h7;cases h7
    ·rw[f3 _ e]at h7;exact h4 y (ie h7).1
   ·unfold iF;rw[fO i f1];by_cases e:i= id
    ·rw[e,f2];simp only[iV];have:=hbk id;unfold iF at this;exact this
    ·rw[f3 i e,fO i h1];exact Int.le_refl _
 ·rw[if_pos he];exact⟨h,fun _=>Int.le_refl _⟩
theorem KO{l:List aD}{c n:Int}(h:(mr l c n).2.2=0):oY l c n=true∧ ((mr l c n).2.1=true→ (iK l c).1.number<n):=by
 unfold mr at h ⊢;by_cases h1:oY l c n=false
 ·rw[if_pos h1]at h;cases h
 ·rw[if_neg h1]at h ⊢;refine⟨by simpa using h1,?_⟩;by_cases h2:n< (iK l c).1.number
  ·rw[if_pos h2]at h;cases h
  ·rw[if_neg h2]at h ⊢;by_cases h3:n= (iK l c).1.number
   ·rw[if_pos h3];intro h;cases h
   ·rw[if_neg h3];intro _;omega
theorem I7{l:List aD}{c n:Int}{a:bS}(h:(mr l c n).2.2=0)(h2:(mr l c n).2.1=true):mX l c n a=(iw aD.aA ⟨c,n,a⟩ l,0)∧dg (iw aD.aA ⟨c,n,a⟩ l)=true:= by
 obtain⟨hm,hl⟩:=KO h;have hl:=hl h2;obtain⟨m1,m2,m3,m4⟩:=uV hm;refine⟨?_,uF m1 (show 0<c by omega) (by unfold sA;simp only[Bool.and_eq_true,decide_eq_true_eq];exact⟨m3,m4⟩)⟩;unfold mX;rw[if_neg (by rw[hm];simp),if_neg (by unfold lQ;rw[if_pos m1];omega)]
theorem wm{s:St}(h:bX s=true)(c:cR)(f:St→ cR→St× bS)(hf:∃ts,(f s c).1={s with ax:=ts}∧cp {s with ax:=ts}=true):bX (eF f s c).1=true:= by
 obtain⟨g1,g2,g3,g4,g5⟩:=bJ h;unfold eF;by_cases h1:(mr s.cd c.aA c.number).2.2≠0
 ·rw[if_pos h1];exact h
 rw[if_neg h1];by_cases h2:(mr s.cd c.aA c.number).2.1=false
 ·rw[if_pos h2];exact h
 rw[if_neg h2];obtain⟨ts,e,hts⟩:=hf;unfold Gd;rw[e];obtain⟨k1,k2⟩:=I7 (a:=(f s c).2) (by simpa using h1) (by simpa using h2);simp only;rw[k1];exact ng g1 g2 k2 hts g5
theorem xA{s:St}(h:bX s=true){c:cR}(hc:¬dI c):bX (gf s c).1=true:= by
 obtain⟨g1,g2,g3,g4,g5⟩:=bJ h;obtain⟨r1,r2,r3,r4⟩:=mU s c.ak c.aM c.number c.aC c.size;unfold dI at hc;unfold gf;refine ng (by simp only;rw[r1];exact g1) (by simp only;rw[r2];exact g2) (by simp only;rw[r3];exact g3) (zR g4 _ _ _ _ _).1 ?_;simp only;rw[r4];refine uF g5 (show 0<c.ak by omega) ?_;unfold rW;simp only[Bool.and_eq_true,decide_eq_true_eq];omega
theorem Lm{s:St}(h:bX s=true)(c:cR):bX (fF s c).1=true:= by
 unfold fF
 split
 ·exact h
 ·rename_i hb
  split
  ·exact xA h hb
  ·split
   ·exact h
   ·split
    ·exact h
    ·exact xA h hb
theorem Jp{s:St}(h:bX s=true)(c:cR):bX (pZ s c).1=true:= by
 obtain⟨g1,g2,g3,g4,g5⟩:=bJ h;obtain⟨r1,r2,r3,r4⟩:=xQ s c.ak c.aM c.bW c.bN c.closed;unfold pZ;exact ng (by simp only;rw[r1];exact g1) (by simp only;rw[r2];exact g2) (by simp only;rw[r3];exact g3) (L9 g4 _ _ _ _ _).1 (by simp only;rw[r4];exact g5)
theorem Ip{s:St}(h:bX s=true)(c:cR):bX (pM s c).1=true:= by
 obtain⟨g1,g2,g3,g4,g5⟩:=bJ h;obtain⟨r1,r2,r3,r4⟩:=xy s c.bp;unfold pM;exact ng (by simp only;rw[r1];exact g1) (by simp only;rw[r2];exact g2) (by simp only;rw[r3];exact g3) (Lf g4 _).1 (by simp only;rw[r4];exact g5)
theorem NR{s:St}(h:bX s=true)(c:cR):bX (EM s c).1=true:= by
 have g4:=(bJ h).2.2.2.1;unfold EM
 split
 ·exact wm h c Ei ⟨_,rfl,(Vm g4 _ _ _).1⟩
 split
 ·exact wm h c DU ⟨_,rfl,g4⟩
 split
 ·exact wm h c DL ⟨_,rfl,(UC g4 _).1⟩
 split
 ·exact Lm h c
 split
 ·exact Jp h c
 split
 ·exact Ip h c
 ·exact h
theorem Ny{s:St}(h:bX s=true)(x:iD):bX (eT s x).1=true:= by
 unfold eT
 split
 ·exact h
 ·rename_i hx
  have hc:=ru h (x:=x) o_ o_
  split
  ·exact hc
  ·split
   ·exact hc
   ·exact NR hc _
theorem E9{s:St}(h:Small s)(x:iD):Small (eT s x).1:=by
 cases hs:bX s with
 |true=> exact fp (Ny hs x)
 |false=> unfold eT;rw[if_pos (.inl hs)];exact h
end Go.Proofs.YtfdmhpohfjbpfaaGreat
namespace Go.Proofs.YtfdmhpohfjbpfaaGreat
open Go.ChangeShapes Go.WideShapes Go.ChangeAt Go.RowKit
set_option maxRecDepth 100000
set_option maxHeartbeats 16000000
theorem tq18 {P:Prop}(h:P:=by
 clear ht HG;go_enter Tryz.func66,Tryz.ntmps66;go_wp2_with(first|(go_at_call 77;((with_reducible refine HF.out.mono ?_);rintro e w2 ⟨rfl,hb⟩;have hcl:=aW hb;have hfz:=aY hb))|(go_at_call 76;((with_reducible refine(dJ ts _ _ _ _ hn hl (Row.alloc ((Row.alloc hr _).below hb) _)).mono ?_);rw[HT.out];rintro e w3 ⟨rfl,hb3⟩;have hb4:=(hb.alloc hb.size _).trans (hb3.mono (by have:=hb.size;simp at this;simp;omega));have hcl:=aW hb4;have hfz:=aY hb4;have hcx:=aW hb3)));(try simp only[Exit.inBlock,Exit.then]);refine bodyPost_ret (v:= .agg (mh 161 0 0 0 0)) (by simp[results,Tryz.results66,go_sem,hcl]) rfl ?_;have cv:=((Below.refl w.heap.size w).alloc n_ _).trans (hb4.mono (by simp))
 exact⟨by rw[HO.out];rfl,cv.setCell n_ _|>.setCell n_ _|>.setCell n_ _|>.setCell n_ _|>.setCell n_ _⟩):P:=h
theorem uZ(ts:List aj)(a:Option Addr)(n c:Nat)(id:Int)(w:World)(hn:ts.length= n)(hl:ts.length≤ maxLen)(hr:dK w a ts):
 Calls Tryz.prog 66 (Bp a n c id) w (Un w (ma ts id)):=by
 have HG:Hid (ma ts id=if aZ 0 ts=false then bS.err 2 else if(bf ts id).2=false∨ (bf ts id).1.gone=true then bS.err 161 else⟨0,(bf ts id).1.aK,(bf ts id).1.aq,0,0⟩):=rfl;generalize ma ts id=out at HG ⊢;have Oe:=fu ts a n c id (w.alloc (.cells dB 40)) hn hl (Row.alloc hr _);rcases fk:bf ts id with⟨⟨ur,tj,od,gu,Dq⟩,ok⟩;rw[fk]at Oe HG;have HF:=h_ Oe;clear Oe fk;cases ht:aZ 0 ts with
 |false=>
  have HT:=h_ ht;have HO:Hid (out=bS.err 2):=by rw[HG.out,if_pos ht];exact rfl
  clear ht HG;go_enter Tryz.func66,Tryz.ntmps66;go_wp2_with(first|(go_at_call 77;((with_reducible refine HF.out.mono ?_);rintro e w2 ⟨rfl,hb⟩;have hcl:=aW hb;have hfz:=aY hb))|(go_at_call 76;((with_reducible refine(dJ ts _ _ _ _ hn hl (Row.alloc ((Row.alloc hr _).below hb) _)).mono ?_);rw[HT.out];rintro e w3 ⟨rfl,hb3⟩;have hb4:=(hb.alloc hb.size _).trans (hb3.mono (by have:=hb.size;simp at this;simp;omega));have hcl:=aW hb4;have hfz:=aY hb4)));(try simp only[Exit.inBlock,Exit.then]);refine bodyPost_ret (v:= .agg (mh 2 0 0 0 0)) (by simp[results,Tryz.results66,go_sem,hcl]) rfl ?_;have cv:=((Below.refl w.heap.size w).alloc n_ _).trans (hb4.mono (by simp));exact⟨by rw[HO.out];rfl,cv.setCell n_ _|>.setCell n_ _|>.setCell n_ _|>.setCell n_ _|>.setCell n_ _⟩
 |true=>
  have HT:=h_ ht;cases ok with
  |false=>
   have HO:Hid (out=bS.err 161):=by rw[HG.out,if_neg (by rw[ht];simp),if_pos (.inl rfl)];exact rfl
   exact tq18
  |true=>
   cases Dq with
   |true=>
    have HO:Hid (out=bS.err 161):=by rw[HG.out,if_neg (by rw[ht];simp),if_pos (.inr rfl)];exact rfl
    exact tq18
   |false=>
    have HO:Hid (out=⟨0,tj,od,0,0⟩):=by rw[HG.out,if_neg (by rw[ht];simp),if_neg (by simp)];exact rfl
    clear ht HG;go_enter Tryz.func66,Tryz.ntmps66;go_wp2_with(first|(go_at_call 77;((with_reducible refine HF.out.mono ?_);rintro e w2 ⟨rfl,hb⟩;have hcl:=aW hb;have hfz:=aY hb))|(go_at_call 76;((with_reducible refine(dJ ts _ _ _ _ hn hl (Row.alloc ((Row.alloc hr _).below hb) _)).mono ?_);rw[HT.out];rintro e w3 ⟨rfl,hb3⟩;have hb4:=(hb.alloc hb.size _).trans (hb3.mono (by have:=hb.size;simp at this;simp;omega));have hcl:=aW hb4;have hfz:=aY hb4;have hcx:=aW hb3)));(try simp only[Exit.inBlock,Exit.then]);refine bodyPost_ret (v:= .agg (mh 0 tj od 0 0)) (by simp[results,Tryz.results66,go_sem,hcl]) rfl ?_;have cv:=((Below.refl w.heap.size w).alloc n_ _).trans (hb4.mono (by simp));exact⟨by rw[HO.out],cv.setCell n_ _|>.setCell n_ _|>.setCell n_ _|>.setCell n_ _|>.setCell n_ _⟩
theorem VB {P:Prop}(h:P:=by
 have cv:=((Below.refl w.heap.size w).alloc n_ _).trans (hb3.mono (by simp))
 exact⟨a,c,by rw[HO.out];rfl,by rw[HO.out];exact hnc,hc,cg.self _ _,by rw[HO.out];exact hr.below (nb cv n_ _ _ _ _ _),nb cv n_ _ _ _ _ _⟩):P:=h
theorem tq20 {P:Prop}(h:P:=by
 clear ht HP;go_enter Tryz.func64,Tryz.ntmps64;go_wp2_with(first|(go_at_call 76;((with_reducible refine(dJ ts _ _ _ _ rfl hmax hr1).mono ?_);rw[HT.out];rintro e w3 ⟨rfl,hb3⟩;have hcl:=aW hb3;have hfz:=aY hb3)));(try simp only[Exit.inBlock,Exit.then]);refine bodyPost_ret (v:= .tuple #[.slice a ts.length c,.agg (mh 161 0 0 0 0)]) (by simp[results,Tryz.results64,go_sem,hcl]) rfl ?_
 exact VB):P:=h
theorem tq21 {P:Prop}(h:P:=by
 rw[hmo.out]at HO
 exact⟨a7,c7,by rw[HO.out],by rw[HO.out];exact wJ,LF,(iG.mono (by have h1:=hb3.size;have h2:=cv.size;simp at h1;simp;omega)).trans' _,by rw[HO.out];exact Row.nb IZ (iG.ne hlt) _ _ _ _ _,nb jn n_ _ _ _ _ _⟩):P:=h
theorem O6(ts:List aj)(a:Option Addr)(n c:Nat)(id aK aq out:Int)(w:World)(hn:ts.length= n)(hl:ts.length≤ 1000)(hc:a= none→c= 0)(hnc:n≤ c)(hr:dK w a ts):
 Calls Tryz.prog 64 (Py a n c id aK aq out) w (CI w a (qI ts id aK aq out)):=by
 subst hn;have hmax:ts.length≤ maxLen:=bD o_;have hr1:dK (w.alloc (.cells dB 40)) a ts:=Row.alloc hr _
 have HP:Hid (qI ts id aK aq out=if aZ 0 ts=false then(ts,bS.err 2)else if id<1∨ 16<id then(ts,bS.err 161)else if mg aK aq=false then(ts,bS.err 160)
  else(dE ⟨id,aK,aq,gF (bf ts id).1.bucket aq (max out 0),false⟩ ts,⟨0,aK,aq,0,0⟩)):=rfl
 generalize qI ts id aK aq out=res at HP ⊢;cases ht:aZ 0 ts with
 |false=>
  have HT:=h_ ht;have HO:Hid (res=(ts,bS.err 2)):=by rw[HP.out,if_pos ht];exact rfl
  clear ht HP;go_enter Tryz.func64,Tryz.ntmps64;go_wp2_with(first|(go_at_call 76;((with_reducible refine(dJ ts _ _ _ _ rfl hmax hr1).mono ?_);rw[HT.out];rintro e w3 ⟨rfl,hb3⟩;have hcl:=aW hb3;have hfz:=aY hb3)));(try simp only[Exit.inBlock,Exit.then]);refine bodyPost_ret (v:= .tuple #[.slice a ts.length c,.agg (mh 2 0 0 0 0)]) (by simp[results,Tryz.results64,go_sem,hcl]) rfl ?_;exact VB
 |true=>
  have HT:=h_ ht;by_cases D2:id< 1
  ·have HO:Hid (res=(ts,bS.err 161)):=by rw[HP.out,if_neg (by rw[ht];simp),if_pos (.inl D2)];exact rfl
   exact tq20
  by_cases Rf:16< id
  ·have HO:Hid (res=(ts,bS.err 161)):=by rw[HP.out,if_neg (by rw[ht];simp),if_pos (.inr Rf)];exact rfl
   exact tq20
  cases hm:mg aK aq with
  |false=>
   have HM:=h_ hm;have HO:Hid (res=(ts,bS.err 160)):=by rw[HP.out,if_neg (by rw[ht];simp),if_neg o_,if_pos hm];exact rfl
   clear ht HP hm;go_enter Tryz.func64,Tryz.ntmps64;go_wp2_with(first|(go_at_call 76;((with_reducible refine(dJ ts _ _ _ _ rfl hmax hr1).mono ?_);rw[HT.out];rintro e w3 ⟨rfl,hb3⟩;have hcl:=aW hb3;have hfz:=aY hb3))|(go_at_call 115;((with_reducible refine(yQ _ _ _).mono ?_);rw[HM.out];rintro e w4 ⟨rfl,rfl⟩)));(try simp only[Exit.inBlock,Exit.then]);refine bodyPost_ret (v:= .tuple #[.slice a ts.length c,.agg (mh 160 0 0 0 0)]) (by simp[results,Tryz.results64,go_sem,hcl]) rfl ?_;exact VB
  |true=>
   have HM:=h_ hm;have HO:Hid (res=(dE ⟨id,aK,aq,gF (bf ts id).1.bucket aq (max out 0),false⟩ ts,⟨0,aK,aq,0,0⟩)):=by
    rw[HP.out,if_neg (by rw[ht];simp),if_neg o_,if_neg (by rw[hm];simp)];exact rfl
   clear ht HP hm;rcases fk:bf ts id with⟨⟨ur,tj,od,gu,Dq⟩,ok⟩;rw[fk]at HO;have qD:=h_ fk;clear fk;by_cases hout:out< 0
   ·have hmo:Hid (max out 0=0):=by show _=_;omega
    go_enter Tryz.func64,Tryz.ntmps64;go_wp2_with(first|(go_at_call 76;((with_reducible refine(dJ ts _ _ _ _ rfl hmax hr1).mono ?_);rw[HT.out];rintro e w3 ⟨rfl,hb3⟩;have hcl:=aW hb3;have hfz:=aY hb3))|(go_at_call 115;((with_reducible refine(yQ _ _ _).mono ?_);rw[HM.out];rintro e w4 ⟨rfl,rfl⟩))|(go_at_call 77;((with_reducible refine(fu ts _ _ _ _ _ rfl hmax (hr1.below hb3)).mono ?_);rw[qD.out];rintro e w5 ⟨rfl,cv⟩))|(go_at_call 106;((with_reducible refine(DK _ _ _ _).mono ?_);rintro e w6 ⟨rfl,rfl⟩))|(go_at_call 116;((with_reducible refine(pj ts _ _ _ ⟨id,aK,aq,gF gu aq 0,false⟩ _ rfl hl hc hnc (Row.alloc ((hr1.below hb3).below cv) _)).mono ?_);rintro e w7 ⟨a7,c7,rfl,wJ,LF,iG,IZ,cL⟩;have IK:=((Below.refl w5.heap.size w5).alloc n_ _).trans (cL.mono (by simp));have pQ:=cv.trans (IK.mono cv.size);have jR:=hb3.trans (pQ.mono hb3.size);have hcl:=aW jR;have hfz:=aY jR)));(try simp only[Exit.inBlock,Exit.then]);refine bodyPost_ret (v:= .tuple #[.slice a7 (dE ⟨id,aK,aq,gF gu aq 0,false⟩ ts).length c7,.agg (mh 0 aK aq 0 0)]) (by simp[results,Tryz.results64,go_sem,hcl]) rfl ?_;have jn:=((Below.refl w.heap.size w).alloc n_ _).trans (jR.mono (by simp));have hlt:w.heap.size< (w5.alloc (.cells (gW id aK aq (gF gu aq 0) false) 75)).heap.size:=by
     have h1:=hb3.size;have h2:=cv.size;simp at h1;simp;omega
    exact tq21
   ·have hmo:Hid (max out 0=out):=by show _=_;omega
    go_enter Tryz.func64,Tryz.ntmps64;go_wp2_with(first|(go_at_call 76;((with_reducible refine(dJ ts _ _ _ _ rfl hmax hr1).mono ?_);rw[HT.out];rintro e w3 ⟨rfl,hb3⟩;have hcl:=aW hb3;have hfz:=aY hb3))|(go_at_call 115;((with_reducible refine(yQ _ _ _).mono ?_);rw[HM.out];rintro e w4 ⟨rfl,rfl⟩))|(go_at_call 77;((with_reducible refine(fu ts _ _ _ _ _ rfl hmax (hr1.below hb3)).mono ?_);rw[qD.out];rintro e w5 ⟨rfl,cv⟩))|(go_at_call 106;((with_reducible refine(DK _ _ _ _).mono ?_);rintro e w6 ⟨rfl,rfl⟩))|(go_at_call 116;((with_reducible refine(pj ts _ _ _ ⟨id,aK,aq,gF gu aq out,false⟩ _ rfl hl hc hnc (Row.alloc ((hr1.below hb3).below cv) _)).mono ?_);rintro e w7 ⟨a7,c7,rfl,wJ,LF,iG,IZ,cL⟩;have IK:=((Below.refl w5.heap.size w5).alloc n_ _).trans (cL.mono (by simp));have pQ:=cv.trans (IK.mono cv.size);have jR:=hb3.trans (pQ.mono hb3.size);have hcl:=aW jR;have hfz:=aY jR)));(try simp only[Exit.inBlock,Exit.then]);refine bodyPost_ret (v:= .tuple #[.slice a7 (dE ⟨id,aK,aq,gF gu aq out,false⟩ ts).length c7,.agg (mh 0 aK aq 0 0)]) (by simp[results,Tryz.results64,go_sem,hcl]) rfl ?_;have jn:=((Below.refl w.heap.size w).alloc n_ _).trans (jR.mono (by simp));have hlt:w.heap.size< (w5.alloc (.cells (gW id aK aq (gF gu aq out) false) 75)).heap.size:=by
     have h1:=hb3.size;have h2:=cv.size;simp at h1;simp;omega
    exact tq21
section
variable {P:Program} {e:TypeId} {α:Type} {L:iW P e α}
theorem rA{xs:List α}{k r:Nat}{v:Value}{z:α}(hk:k< xs.length)(hr:r< L.size)(hz:L.cells z=(L.cells xs[k]).set r v):(xs.set k z).flatMap L.cells=(xs.flatMap L.cells).set (k*L.size+ r) v:=by
 have hp:=L.pos;refine List.ext_getElem? fun j=> ?_
 have Rh:j/ L.size*L.size+ j%L.size= j:=by rw[Nat.mul_comm];exact Nat.div_add_mod j L.size
 have hj:j% L.size<L.size:= Nat.mod_lt _ hp;have h1:=L.at (xs.set k z) (k:=j/ L.size) hj;have h2:=L.at xs (k:=j/ L.size) hj;rw[Rh]at h1 h2;rw[h1];by_cases e1:j/ L.size=k
 ·rw[e1,List.getElem?_set_self hk,Option.bind_some,hz];rw[e1,List.getElem?_eq_getElem hk,Option.bind_some]at h2;by_cases e2:j% L.size=r
  ·have Ol:k* L.size+r= j:=by rw[←e1,←e2];exact Rh
   have hlt:j< (xs.flatMap L.cells).length:=by
    rw[L.length,←Ol];have:=Nat.mul_le_mul_right L.size (Nat.succ_le_of_lt hk);rw[Nat.succ_mul]at this;omega
   rw[e2,Ol,List.getElem?_set_self (by rw[L.len];exact hr),List.getElem?_set_self hlt]
  ·rw[List.getElem?_set_ne (fun h=>e2 h.symm),List.getElem?_set_ne (fun h=>e2 (by rw[←h,Nat.mul_comm,Nat.mul_add_mod,Nat.mod_eq_of_lt hr])),h2]
 ·rw[List.getElem?_set_ne (fun h=>e1 h.symm),←h2,List.getElem?_set_ne];intro h;apply e1;rw[←h,Nat.mul_comm,Nat.mul_add_div hp,Nat.div_eq_of_lt hr];rfl
theorem dM.box{w:World}{B g:Nat}{xs:List α}(h:dM L w B g 0 xs):aU w g (xs.flatMap L.cells):=⟨h.2.1,by rw[L.length];exact h.2.2⟩
theorem dM.Ji{w:World}{B g:Nat}{xs:List α}(hB:B≤ g)(h:aU w g (xs.flatMap L.cells)):dM L w B g 0 xs:=⟨hB,h.range,by have:=h.there;rw[L.length]at this;exact this⟩
theorem dM.block{w w':World}{B g:Nat}{xs:List α}(h:dM L w B g 0 xs)(hg:w'.heap[g]? =w.heap[g]?):dM L w' B g 0 xs:= .Ji h.1 (h.box.block hg)
theorem nk{ops:Array Oper}{rest:List Oper}{op:Oper}{a:Act}{w:World}{Q:Exit→ Act→World→ Prop}{t:TypeId}(hgd:op.guard= none)(x y:Operand)(ho:op.op= .store t x y)(hi:(P.info? t).map (·.size)=some 1){B g:Nat}{xs:List α}(hm:dM L w B g 0 xs)(k:Nat)(hk:k< xs.length)(r:Nat)(hr:r< L.size)(v:Value)(z:α)(hz:L.cells z=(L.cells xs[k]).set r v)(hx:a.eval x= .pointer (some ⟨g,k*L.size+ r,none⟩))(hy:a.eval y=v)(hv:v.cells= #[v])(h1:v.oneCell'= true)(h:∀w',dM L w' B g 0 (xs.set k z)→dt g w w'→wpList P ops Q rest (a.put op.dst undef) w'):wpList P ops Q (op::rest) a w:=by
 have hlt:k* L.size+r< (xs.flatMap L.cells).length:=by
  rw[L.length];have:=Nat.mul_le_mul_right L.size (Nat.succ_le_of_lt hk);rw[Nat.succ_mul]at this;omega
 refine bE hgd x y ho hi g (k*L.size+ r) _ v hx hy hv h1 hm.box hlt fun w' hb hw=>h w' (.Ji hm.1 ?_) hw
 rw[rA hk hr hz];exact hb
theorem dF.wrote{g:Nat}{w w' w'':World}(h:dF g w w')(hw:dt g w' w''):dF g w w'':=h.put hw.below hw.bY
end
theorem yS(s:St)(r:Raw)(B:Nat)(id:Int)(w:World)(h:aX w B r s)(hf:Fits s.ai)(hl2:s.ai.length≤ 900)(hid:(Lit.int .i64 id).wf=true):
 Calls Tryz.prog 41 #[r.agg,.int .i64 id] w fun e w'=>e= .returned (.int .i64 (bV s.ai id))∧Below w.heap.size w w':=by
 have Hp:=h_ (fun w' (hb:Below w.heap.size w w')=>uY s.ai r w' h.cG.len o_ hf (h.cG.row.below hb));have HW:=h_ hid;obtain⟨term,ag,next,⟨a1,n1,c1⟩,⟨a2,n2,c2⟩,⟨a3,n3,c3⟩,⟨a4,n4,c4⟩⟩:=r;have HZ:Hid (∀f: Int→Option Int,(∀i,(f i).getD 0=bV s.ai i)→(f id).getD 0=bV s.ai id):=fun f h=>h id
 clear h hid;go_enter Tryz.func41,Tryz.ntmps41;go_wp2_with(first|(refine aa aG rfl (.tmp 2) rfl w.heap.size 0 rfl ⟨term,ag,next,⟨a1,n1,c1⟩,⟨a2,n2,c2⟩,⟨a3,n3,c3⟩,⟨a4,n4,c4⟩⟩ (.agg (aw term ag next a1 n1 c1 a2 n2 c2 a3 n3 c3 a4 n4 c4)) rfl (aU.aR b_).range ?_)|(go_at_call 58;((with_reducible refine(Hp.out _ aH).mono ?_);rintro e w2 ⟨mb,mn,mf,rfl,hmap,hb2⟩;have HM:=h_ hmap;clear hmap))|(refine nL BU Tryz.underlying100 Tryz.underlying3 Bg rfl (.tmp 6) (.tmp 7) rfl mb mn mf rfl HM.map id HW.out rfl ?_;rw[HZ.out mf HM.out.out]));go_returns;exact⟨rfl,aH⟩
def XM(w:World)(r:aV× Bool)(e:Ending)(w':World):Prop:= e= .returned (.tuple #[r.1.agg,.bool r.2])∧Below w.heap.size w w'
theorem Li{s:St}{id:Int}(h:s.ai.find? (fun x=>x.id== id)=none):fE s id=(mH,false):=by
 unfold fE pN fN;rw[h]
 split<;>rfl
theorem Ir{s:St}{id:Int}(h:cp s=false):fE s id=(mH,false):=by
 unfold fE;rw[if_neg (by rw[h];simp)]
theorem Iw{s:St}{id:Int}{x:aV}(h:cp s=true)(hx:s.ai.find? (fun x=>x.id== id)=some x):fE s id=(x,true):=by
 unfold fE pN fN;rw[if_pos h,hx]
theorem kf{w:World}{b:Nat}{t:aV}(h:w.rangeAt b 0 t.cells):w.cell? ⟨b,0,none⟩=some (.int .i64 t.id)∧w.cell? ⟨b,1,none⟩=some (.int .i64 t.aC)∧w.cell? ⟨b,2,none⟩=some (.int .i64 t.ak)∧w.cell? ⟨b,3,none⟩=some (.int .i64 t.aM)∧w.cell? ⟨b,4,none⟩=some (.int .i64 t.number)∧w.cell? ⟨b,5,none⟩=some (.int .i64 t.size)∧w.cell? ⟨b,6,none⟩=some (.int .i64 t.bN):=by
 have:=oL h;simp only[Nat.zero_add]at this;exact this
section
variable {P:Program} {e:TypeId} {α:Type}
theorem bK{op:Oper}{a:Act}{w:World}{K:Act→ World→Prop}{Q:Exit→ Act→World→ Prop}(L:iW P e α)(x y:Operand)(ho:op.op= .store e x y)(g:Nat)(z:α)(cs:List Value)(hx:a.eval x= .pointer (some ⟨g,0,none⟩))(hy:a.eval y=L.val z)(hb:ct w g cs)(hl:cs.length= L.size)(h:∀w',ct w' g (L.cells z)→dt g w w'→K (a.put op.dst undef) w'):Oper.wp P op a w K Q:=by
 have ht:w.there g 0 L.size:=by rw[←hl];exact hb.box.there
 unfold Oper.wp execOp;simp only[ho,hx,hy,Sem.run_bind,Sem.run_pure,Result.andThen_ok,L.store w g 0 z ht];exact h _ (hb.put (by rw[hl,L.len])) ⟨fun _ hB=>Below.setCells hB _ _ b_,dW _ _ _ _,fun k hk=>dh g _ _ _ k hk⟩
theorem gM{op:Oper}{a:Act}{w:World}{K:Act→ World→Prop}{Q:Exit→ Act→World→ Prop}{t:TypeId}(x y:Operand)(ho:op.op= .store t x y)(hi:(P.info? t).map (·.size)=some 1)(g i:Nat)(cs:List Value)(v:Value)(hx:a.eval x= .pointer (some ⟨g,i,none⟩))(hy:a.eval y=v)(hv:v.cells= #[v])(h1:v.oneCell'= true)(hb:ct w g cs)(hlt:i< cs.length)(h:∀w',ct w' g (cs.set i v)→dt g w w'→K (a.put op.dst undef) w'):Oper.wp P op a w K Q:=by
 have Ae:w.there g i 1:=fun j hj=>by
  have:=hb.box.there i hlt;obtain rfl:j= 0:=o_;rw[Nat.zero_add]at this;exact this
 have hrun:(storeVar t ⟨g,i,none⟩ v).run P w= .ok () (w.setCell ⟨g,i,none⟩ v):=by
  have:=run_storeCells_cells (P:=P) g i [v] 0 w (fun j hj=>by simpa using (Ae j (by simpa using hj)).1) (fun j hj=>by simpa using (Ae j (by simpa using hj)).2) (fun u hu=>by simp at hu;subst hu;exact h1);cases hq:P.info? t with
  |none=> simp[hq]at hi
  |some q=>
   have hs:q.size= 1:=by simpa[hq]using hi
   simp only[Nat.add_zero]at this;simp[storeVar,sizeOf,typeInfo,hq,hv,hs,this,World.setCells]
 unfold Oper.wp execOp;simp only[ho,hx,hy,Instr.storeAt,Instr.sureAddr,Sem.run_bind,Sem.run_pure,Result.andThen_ok,hrun];exact h _ (hb.set i v) ⟨fun B hB=>(Below.refl B w).setCell (p:=⟨g,i,none⟩) hB v,by simp,fun k hk=>Below.heap_setCell _ _ _ _ (fun e=>hk e)⟩
end
structure qi(w:World)(gc:Nat)(c:cR)(p:lI):Prop where
 box:ct w gc (jG c p)
 row:Row w p.1 (c.bp.map (Value.int .i64))
 le:c.bp.length≤ p.2
theorem qi.next{w w':World}{gc:Nat}{c:cR}{p:lI}(h:qi w gc c p)(hb:Below w.heap.size w w'):qi w' gc c p:=⟨h.box.next hb,h.row.below hb,h.le⟩
def iE(w:World)(gs:Nat)(r:St× bS)(e:Ending)(w':World):Prop:= e= .returned r.2.agg∧∃q,ct w' gs (Raw.cells q)∧aX w' 0 q r.1∧dF gs w w'
def Way(F:FuncId)(cap:Array Value)(f:St→ cR→St× bS)(w0:World):Prop:= ∀(s:St) (q:Raw) (c:cR) (p:lI) (gs gc:Nat) (w:World),ct w gs q.cells→aX w 0 q s→qi w gc c p→gs≠ gc→bX s=true→ lN c→c.bp.length≤ 1000→Below w0.heap.size w0 w→
 Calls Tryz.prog F (#[.pointer (some ⟨gs,0,none⟩),.pointer (some ⟨gc,0,none⟩)]++cap) w (iE w gs (f s c))
theorem nX{n:Int}(h:eo n):(Lit.int .i64 n).wf=true:= Go.WalkArith.wf_i64 (by unfold eo at h;omega)
theorem ju:(Tryz.prog.info? 24).map (·.size)=some 1∧(Tryz.prog.info? 25).map (·.size)=some 1∧(Tryz.prog.info? 38).map (·.size)=some 1:=⟨by kernel_rfl,by kernel_rfl,by kernel_rfl⟩
def qh:bS:= ⟨0,0,0,0,0⟩
theorem dY(w:World):ct (w.alloc (.cells dB 40)) w.heap.size qh.cells:=ct.new w qh.cells _
theorem cz{w:World}{b:Nat}{t:bS}(h:ct w b t.cells):w.cell? ⟨b,0,none⟩=some (.int .i64 t.e)∧w.cell? ⟨b,1,none⟩=some (.int .i64 t.aK)∧w.cell? ⟨b,2,none⟩=some (.int .i64 t.aq)∧w.cell? ⟨b,3,none⟩=some (.int .i64 t.bW)∧w.cell? ⟨b,4,none⟩=some (.int .i64 t.size):=
 ⟨h.box.cell rfl,h.box.cell rfl,h.box.cell rfl,h.box.cell rfl,h.box.cell rfl⟩
theorem vd{w w':World}{g:Nat}{t1 t2 t3:Int}{l1 l2 l3 l4:sH}{s:St}{ts:List aj}{x:Option Addr}{y:Nat}(h:aX w 0 ⟨t1,t2,t3,l1,l2,l3,l4⟩ s)(hb:ct w g (Raw.cells ⟨t1,t2,t3,l1,l2,l3,l4⟩))(hw:dt g w w')(hle:ts.length≤ y)(hnil:x= none→y= 0)(hrow:dK w x ts):
 aX w' 0 ⟨t1,t2,t3,⟨x,ts.length,y⟩,l2,l3,l4⟩ {s with ax:=ts}:=by
 have h2:=h.gj (w':=w') hb (bB _) (by have:=hw.size;omega) (fun k _ hk=>hw.bY k hk);have h3:cK aT w 0 ⟨x,ts.length,y⟩ ts:=⟨rfl,hle,hnil,fun _ _ _ _=> .inl (Nat.zero_le _),hrow⟩;exact⟨h2.term,h2.ag,h2.next,h3.gj hb (bB ⟨t1,t2,t3,l1,l2,l3,l4⟩).cD (fun k _ hk=>hw.bY k hk),h2.cG,h2.eY,h2.ft⟩
theorem u9{w w':World}{g:Nat}{t1 t2 t3:Int}{l1 l2 l3 l4:sH}{s:St}{ts:List aD}{x:Option Addr}{y:Nat}(h:aX w 0 ⟨t1,t2,t3,l1,l2,l3,l4⟩ s)(hb:ct w g (Raw.cells ⟨t1,t2,t3,l1,l2,l3,l4⟩))(hw:dt g w w')(hle:ts.length≤ y)(hnil:x= none→y= 0)(hrow:bF aB w x ts):
 aX w' 0 ⟨t1,t2,t3,l1,l2,⟨x,ts.length,y⟩,l4⟩ {s with cd:=ts}:=by
 have h2:=h.gj (w':=w') hb (bB _) (by have:=hw.size;omega) (fun k _ hk=>hw.bY k hk);have h3:cK aB w 0 ⟨x,ts.length,y⟩ ts:=⟨rfl,hle,hnil,fun _ _ _ _=> .inl (Nat.zero_le _),hrow⟩;exact⟨h2.term,h2.ag,h2.next,h2.cD,h2.cG,h3.gj hb (bB ⟨t1,t2,t3,l1,l2,l3,l4⟩).eY (fun k _ hk=>hw.bY k hk),h2.ft⟩
theorem aX.wrote{w w':World}{g B:Nat}{r:Raw}{s:St}{cs:List Value}(h:aX w B r s)(hb:ct w g cs)(hm:yI cs)(hw:dt g w w'):aX w' B r s:=h.gj hb hm (by have:=hw.size;omega) (fun k _ hk=>hw.bY k hk)
theorem dF.dG{w w' w'':World}{g g':Nat}(h:dF g w w')(hw:dt g' w' w'')(hn:w.heap.size≤ g'):dF g w w'':=
 ⟨(hw.below 0 (Nat.zero_le _)).os.trans h.os,(hw.below 0 (Nat.zero_le _)).tape.trans h.tape,(hw.below 0 (Nat.zero_le _)).output.trans h.output,Nat.le_trans h.size (hw.below 0 (Nat.zero_le _)).size,fun k hk hne=>(hw.bY k o_).trans (h.block k hk hne)⟩
theorem Al(a:Nat)(ha:a< 18446744073709551616):bits .and .u64 (a:Int) 4294967295=((a%4294967296: Nat):Int):=by
 have h:=bits_and_u64_nat a 4294967295 ha o_;rw[show a &&& 4294967295=a% 4294967296 from Nat.and_two_pow_sub_one_eq_mod a 32]at h;exact h
theorem Rx(a:Nat):(a:Int)/4294967296= ((a/4294967296: Nat):Int):=o_
theorem Ry(a b:Nat):(a:Int)*(b:Int)=((a*b: Nat):Int):=(Int.natCast_mul a b).symm
theorem Rw(a b:Nat):(a:Int)+(b:Int)=((a+b: Nat):Int):=(Int.natCast_add a b).symm
theorem lS(a:Nat)(ha:a< 18446744073709551616):IntKind.u64.wrap (a:Int)=(a:Int):=by rw[IntKind.wrap_u64];omega
theorem LQ(a:Nat):IntKind.u64.wrap (a:Int)=((a%18446744073709551616: Nat):Int):=by rw[IntKind.wrap_u64];omega
theorem LS(x y:Nat)(hx:x< 18446744073709551616)(hy:y< 18446744073709551616)(w:World):
 Calls Tryz.prog 152 #[.int .u64 x,.int .u64 y] w fun e w'=>e= .returned (.tuple #[.int .u64 ((x*y/ 18446744073709551616:Nat):Int),.int .u64 ((x*y% 18446744073709551616:Nat):Int)])∧w= w':=by
 obtain⟨bd,bt,bw,hhi⟩:=Lib.mul64_hi x y hx hy;have ba:=Lib.half_mul_le (a:=x/ 4294967296) (b:=y/ 4294967296) o_ o_;have bb:=Lib.half_mul_le (a:=x/ 4294967296) (b:=y% 4294967296) o_ o_;have bc:=Lib.half_mul_le (a:=x% 4294967296) (b:=y/ 4294967296) o_ o_;have ba':x/ 4294967296*(y/4294967296)<18446744073709551616:= o_;have bb':x/ 4294967296*(y%4294967296)<18446744073709551616:= o_;have bc':x% 4294967296*(y/4294967296)<18446744073709551616:= o_;have bh1:x/ 4294967296*(y/4294967296)+(x/4294967296* (y%4294967296)+x% 4294967296*(y%4294967296)/4294967296)/4294967296< 18446744073709551616:=o_;have bh:x/ 4294967296*(y/4294967296)+(x/4294967296* (y%4294967296)+x% 4294967296*(y%4294967296)/4294967296)/4294967296+ ((x/4294967296* (y%4294967296)+x% 4294967296*(y%4294967296)/4294967296)%4294967296+ x%4294967296* (y/4294967296))/4294967296< 18446744073709551616:=o_;go_enter Tryz.func152,Tryz.ntmps152;go_wp2;simp only[Al x hx,Al y hy,Rx,Ry,Rw,lS _ bd,lS _ bb',lS _ bt,Al _ bt,lS _ bc',lS _ bw,lS _ ba',lS _ bh1,lS _ bh,LQ (x*y)];rw[hhi];go_ret2;exact⟨rfl,rfl⟩
theorem CT(b:Int)(n k:Nat)(bn bk:Nat)(w:World)(hn:n≤ 1000000)(hk:k≤ 1099511627776)(hcn:w.cell? ⟨bn,0,none⟩=some (.int .i64 n))(hck:w.cell? ⟨bk,0,none⟩=some (.int .i64 k)):
 Calls Tryz.prog 151 #[.int .i64 b,.pointer (some ⟨bn,0,none⟩),.pointer (some ⟨bk,0,none⟩)] w fun e w'=>e= .returned (.int .i64 (bL b 0 2305843009213693952+((n*k: Nat):Int)))∧Below w.heap.size w w':=by
 have hp:n* k≤1000000* 1099511627776:=Nat.mul_le_mul hn hk;have hq:n* k/18446744073709551616= 0:=o_;have hr:n* k%18446744073709551616= n*k:= o_;have hm:=LS n k o_ o_ w;rw[hq,hr]at hm;have HM:=h_ hm;obtain⟨h1,h2⟩:=eA b 0 2305843009213693952 o_;have HB:=h_ (jZ b 0 2305843009213693952 w);generalize bL b 0 2305843009213693952=z at h1 h2 HB ⊢;generalize hpn:n* k=p at HM hp ⊢;clear hm hq hr hpn;go_enter Tryz.func151,Tryz.ntmps151;go_wp2_with(first|(go_at_call 152;((with_reducible refine HM.out.mono ?_);rintro e w' ⟨rfl,rfl⟩))|(go_at_call 104;((with_reducible refine HB.out.mono ?_);rintro e w' ⟨rfl,rfl⟩)));go_returns;exact⟨rfl,Below.refl _ _⟩
theorem xx(args:Array Value)(w:World):(callFunc 151 args).run Tryz.prog w= .ok (.enter 151 args) w:=k_
def QM(w:World)(n k:Int)(e:Ending)(w':World):Prop:= e= .returned (.func (.func 151) #[] #[.pointer (some ⟨w.heap.size,0,none⟩),.pointer (some ⟨w.heap.size+1,0,none⟩)])∧
 (∀w'',Below w'.heap.size w' w''→w''.cell? ⟨w.heap.size,0,none⟩=some (.int .i64 n)∧w''.cell? ⟨w.heap.size+1,0,none⟩=some (.int .i64 k))∧Below w.heap.size w w'
theorem Gm(n k:Int)(w:World):Calls Tryz.prog 103 (Kf n k) w (QM w n k):=by
 go_enter Tryz.func103,Tryz.ntmps103;go_wp2;go_returns;refine⟨rfl,fun w'' hb=>⟨?_,?_⟩,aH⟩
 ·rw[hb.cell (p:=⟨w.heap.size,0,none⟩) (by simp;omega),World.cell?_alloc_past _ _ _ (by simp)];exact World.cell?_alloc_at _ _ _ 0 rfl
 ·rw[hb.cell (p:=⟨w.heap.size+1,0,none⟩) (by simp)];exact World.cell?_alloc_at #[.int .i64 k] 3 (w.heap.size+1) 0 (by simp)
theorem Dh(b b1 b2:Int)(g:Nat)(f1 f2:FuncId)(c1 c2:Array Value)(w:World)(h0:w.cell? ⟨g,0,none⟩=some (.func (.func f1) #[] c1))(h1:w.cell? ⟨g,1,none⟩=some (.func (.func f2) #[] c2))(he1:∀(args:Array Value) (w:World),(callFunc f1 args).run Tryz.prog w= .ok (.enter f1 args) w)(Wo:∀(args:Array Value) (w:World),(callFunc f2 args).run Tryz.prog w= .ok (.enter f2 args) w)(ZV:∀w',Below w.heap.size w w'→Calls Tryz.prog f1 (#[.int .i64 b]++c1) w' fun e w''=>e= .returned (.int .i64 b1)∧Below w'.heap.size w' w'')(hf2:∀w',Below w.heap.size w w'→Calls Tryz.prog f2 (#[.int .i64 b1]++c2) w' fun e w''=>e= .returned (.int .i64 b2)∧Below w'.heap.size w' w''):
 Calls Tryz.prog 102 (vis b (some ⟨g,0,none⟩) 2 2) w fun e w'=>e= .returned (.int .i64 b2)∧Below w.heap.size w w':=by
 have hlt:=World.block_lt_of_cell? w _ h0;simp only at hlt;have qC:=h_ ZV;have G7:=h_ hf2;have H0:=h_ h0;have H1:=h_ h1;clear ZV hf2 h0 h1;go_enter Tryz.func102,Tryz.ntmps102;go_wp2;go_loopw [0,9] (fun v i wr=>∃k: Nat,k≤2∧ i= .int .i64 k∧v= .int .i64 (if k=0 then b else if k=1 then b1 else b2)∧Below w.heap.size w wr) (fun _ i _=>2- (intOf i).toNat)
 case atStart=>exact ⟨0,by omega,rfl,rfl,Below.refl _ _⟩
 case round=>
  obtain⟨k,hk,rfl,rfl,hb⟩:=hrel;have hc0:=(hb.cell (p:=⟨g,0,none⟩) hlt).trans H0.out;have hc1:=(hb.cell (p:=⟨g,1,none⟩) hlt).trans H1.out;by_cases e0:k= 0
  ·subst e0;go_wp2_with(refine(qC wr hb).mono ?_;rintro e w2 ⟨rfl,hb2⟩);go_roundw
   case rel=>exact ⟨1,by omega,rfl,rfl,hb.trans (hb2.mono hb.size)⟩
   case measure=>simp [intOf]
  ·by_cases e1:k= 1
   ·subst e1;go_wp2_with(refine(G7 wr hb).mono ?_;rintro e w2 ⟨rfl,hb2⟩);go_roundw
    case rel=>exact ⟨2,by omega,rfl,rfl,hb.trans (hb2.mono hb.size)⟩
    case measure=>simp [intOf]
   ·obtain rfl:k= 2:=o_;go_wp2;go_returns;exact⟨rfl,hb⟩
theorem tq22 {P:Prop}(h:P:=by
 go_wp2_with(go_at_call 106;((with_reducible refine(DK _ _ _ _).mono ?_);rintro e w' ⟨rfl,rfl⟩));go_returns
 exact⟨rfl,Below.refl _ _⟩):P:=h
theorem NN(b aq out:Int)(bb bo:Nat)(w:World)(hb:w.cell? ⟨bb,0,none⟩=some (.int .i64 aq))(ho:w.cell? ⟨bo,0,none⟩=some (.int .i64 out)):
 Calls Tryz.prog 105 #[.int .i64 b,.pointer (some ⟨bb,0,none⟩),.pointer (some ⟨bo,0,none⟩)] w fun e w'=>e= .returned (.int .i64 (gF b aq out))∧Below w.heap.size w w':=by
 go_enter Tryz.func105,Tryz.ntmps105;exact tq22
theorem NP(b aq out:Int)(bb bo:Nat)(w:World)(hb:w.cell? ⟨bb,0,none⟩=some (.int .i64 aq))(ho:w.cell? ⟨bo,0,none⟩=some (.int .i64 out)):
 Calls Tryz.prog 169 #[.int .i64 b,.pointer (some ⟨bb,0,none⟩),.pointer (some ⟨bo,0,none⟩)] w fun e w'=>e= .returned (.int .i64 (gF b aq out))∧Below w.heap.size w w':=by
 go_enter Tryz.func169,Tryz.ntmps169;exact tq22
theorem Im(args:Array Value)(w:World):(callFunc 105 args).run Tryz.prog w= .ok (.enter 105 args) w:=k_
theorem Io(args:Array Value)(w:World):(callFunc 169 args).run Tryz.prog w= .ok (.enter 169 args) w:=k_
theorem Dl(w:World)(x y:Int)(w':World)(hb:Below ((w.alloc (.cells #[.int .i64 x] 3)).alloc (.cells #[.int .i64 y] 3)).heap.size ((w.alloc (.cells #[.int .i64 x] 3)).alloc (.cells #[.int .i64 y] 3)) w'):
 w'.cell? ⟨w.heap.size,0,none⟩=some (.int .i64 x)∧w'.cell? ⟨w.heap.size+1,0,none⟩=some (.int .i64 y):=⟨by
 rw[hb.cell (p:=⟨w.heap.size,0,none⟩) (by simp;omega),World.cell?_alloc_past _ _ _ (by simp)];exact World.cell?_alloc_at _ _ _ 0 rfl,by
 rw[hb.cell (p:=⟨w.heap.size+1,0,none⟩) (by simp)]
 exact World.cell?_alloc_at #[.int .i64 y] 3 (w.heap.size+1) 0 (by simp)⟩
theorem yZ{w:World}(f1 f2:Value)(t:TypeId):(w.alloc (.cells #[f1,f2] t)).cell? ⟨w.heap.size,0,none⟩=some f1∧(w.alloc (.cells #[f1,f2] t)).cell? ⟨w.heap.size,1,none⟩=some f2:=⟨World.cell?_alloc_at _ _ _ 0 rfl,World.cell?_alloc_at _ _ _ 1 rfl⟩
theorem kj{w w':World}{o:Obj}(hb:Below (w.alloc o).heap.size (w.alloc o) w'):Below w.heap.size w w':=((Below.refl w.heap.size w).alloc n_ o).trans (hb.mono (by simp))
theorem Ii(b aK aq out ticks:Int)(w:World):Calls Tryz.prog 59 (mh b aK aq out ticks) w fun e w'=>e= .returned (.int .i64 (dH b aK aq out ticks))∧Below w.heap.size w w':=by
 obtain⟨hr1,hr2⟩:=eA aK 0 1000000 o_;obtain⟨ht1,ht2⟩:=eA ticks 0 1099511627776 o_;have D3:∀(fn:Fn) (first cap:Array Value) (w:World),(Instr.makeFunc fn first cap).run Tryz.prog w= .ok (.func fn first cap) w:=fun _ _ _ _=>rfl
 have tu:=h_ (jZ aK 0 1000000);have Hl:=h_ (jZ ticks 0 1099511627776);have HC:Hid (dH b aK aq out ticks=gF (bL b 0 2305843009213693952+bL aK 0 1000000*bL ticks 0 1099511627776) aq out):=rfl;generalize dH b aK aq out ticks=res at HC ⊢;generalize bL aK 0 1000000=n at hr1 hr2 tu HC;generalize bL ticks 0 1099511627776=k at ht1 ht2 Hl HC;obtain⟨n,rfl⟩:=Int.eq_ofNat_of_zero_le hr1;obtain⟨k,rfl⟩:=Int.eq_ofNat_of_zero_le ht1;have lH:=h_ (Dl w aq out);have HE:Hid (gF (bL b 0 2305843009213693952+((n*k: Nat):Int)) aq out=res):=by show _=_;rw[HC.out];simp
 have hn:n≤ 1000000:=o_;have hk:k≤ 1099511627776:=o_;have ZJ:=h_ (And.intro hn hk);clear HC hr1 ht1 hr2 ht2 hn hk;go_enter Tryz.func59,Tryz.ntmps59;go_wp2_with(first|(go_at_call 104;((with_reducible refine(tu.out _).mono ?_);rintro e w' ⟨rfl,rfl⟩))|(go_at_call 104;((with_reducible refine(Hl.out _).mono ?_);rintro e w' ⟨rfl,rfl⟩))|(go_at_call 103;((with_reducible refine(Gm _ _ _).mono ?_);rintro e w2 ⟨rfl,hc2,hb2⟩;simp only[World.size_alloc]at hc2;have uy:=h_ hc2;have nO:=h_ (fun w' hb=>lH.out w' (hb2.trans (Below.mono hb hb2.size)));clear hc2))|(go_at_call 102;((with_reducible refine(Dh b (bL b 0 2305843009213693952+((n*k: Nat):Int)) (gF (bL b 0 2305843009213693952+((n*k: Nat):Int)) aq out) w2.heap.size 151 105 _ _ _ (yZ _ _ _).1 (yZ _ _ _).2 xx Im (fun w' hb=>CT b n k _ _ w' ZJ.out.1 ZJ.out.2 (uy.out w' (kj hb)).1 (uy.out w' (kj hb)).2) (fun w' hb=>NN _ aq out _ _ w' (nO.out w' (kj hb)).1 (nO.out w' (kj hb)).2)).mono ?_);rw[HE.out];rintro e w3 ⟨rfl,hb3⟩)));go_returns;exact⟨rfl,aH⟩
theorem Fb(b aq out size:Int)(w:World):Calls Tryz.prog 126 (vi4 b aq out size) w fun e w'=>e= .returned (.int .i64 (iy b aq out size))∧Below w.heap.size w w':=by
 obtain⟨ht1,ht2⟩:=eA size 0 1000000 o_;have D3:∀(fn:Fn) (first cap:Array Value) (w:World),(Instr.makeFunc fn first cap).run Tryz.prog w= .ok (.func fn first cap) w:=fun _ _ _ _=>rfl
 have Hl:=h_ (jZ size 0 1000000);have HC:Hid (iy b aq out size=gF (bL b 0 2305843009213693952+1000* bL size 0 1000000) aq out):=rfl;generalize iy b aq out size=res at HC ⊢;generalize bL size 0 1000000=k at ht1 ht2 Hl HC;obtain⟨k,rfl⟩:=Int.eq_ofNat_of_zero_le ht1;have lH:=h_ (Dl w aq out);have HE:Hid (gF (bL b 0 2305843009213693952+((1000*k: Nat):Int)) aq out=res):=by show _=_;rw[HC.out];simp
 have hk:k≤ 1099511627776:=o_;have ZJ:=h_ hk;clear HC ht1 ht2 hk;go_enter Tryz.func126,Tryz.ntmps126;go_wp2_with(first|(go_at_call 104;((with_reducible refine(Hl.out _).mono ?_);rintro e w' ⟨rfl,rfl⟩))|(go_at_call 103;((with_reducible refine(Gm _ _ _).mono ?_);rintro e w2 ⟨rfl,hc2,hb2⟩;simp only[World.size_alloc]at hc2;have uy:=h_ hc2;have nO:=h_ (fun w' hb=>lH.out w' (hb2.trans (Below.mono hb hb2.size)));clear hc2))|(go_at_call 102;((with_reducible refine(Dh b (bL b 0 2305843009213693952+((1000*k: Nat):Int)) (gF (bL b 0 2305843009213693952+((1000*k: Nat):Int)) aq out) w2.heap.size 151 169 _ _ _ (yZ _ _ _).1 (yZ _ _ _).2 xx Io (fun w' hb=>CT b 1000 k _ _ w' o_ ZJ.out (uy.out w' (kj hb)).1 (uy.out w' (kj hb)).2) (fun w' hb=>NP _ aq out _ _ w' (nO.out w' (kj hb)).1 (nO.out w' (kj hb)).2)).mono ?_);rw[HE.out];rintro e w3 ⟨rfl,hb3⟩)));go_returns;exact⟨rfl,aH⟩
theorem Ph(xs:List aj)(a:Option Addr)(n c:Nat)(w:World)(hn:xs.length= n)(hby:n* (aT).bytes≤140737488355328)(hr:bF aT w a xs):
 Calls Tryz.prog 44 #[.slice a n c] w (CH w xs):=by
 subst hn;have HR:=h_ hr;clear hr;go_enter Tryz.func44,Tryz.ntmps44;go_wp2_with(at_builtin;refine dU ((aT).elem Tryz.underlying22) rfl _ _ rfl w.heap.size none 0 0 [] rfl (Can.nil _ _ _ _) _ xs.length _ (xs.flatMap (aT).cells) rfl ((aT).length _) HR.out ((aT).rI _) (by rw[Nat.zero_add];exact hby) n_ ?_;intro a' c' w3 fc _ hb3 hown);go_returns;rw[Nat.zero_add,List.nil_append]at fc hown;have cE:cg w.heap.size none a':=by
  by_cases h0:0< xs.length
  ·exact cg.own (hown.1 h0) n_
  ·rw[(hown.2 o_).1];exact cg.nil _ _
 have hblt:∀b o s,a'=some ⟨b,o,s⟩→b< w3.heap.size:=fun b o s hab=>by
  by_cases h0:0< xs.length
  ·exact((hown.1 h0).lt b (by rw[hab];rfl)).2
  ·rw[(hown.2 o_).1]at hab;cases hab
 exact⟨a',c',rfl,cE,fc,fun h=>hown.1 h,hblt,hb3⟩
theorem Pf(xs:List aV)(a:Option Addr)(n c:Nat)(w:World)(hn:xs.length= n)(hby:n* (aJ).bytes≤140737488355328)(hr:bF aJ w a xs):
 Calls Tryz.prog 45 #[.slice a n c] w (CF w xs):=by
 subst hn;have HR:=h_ hr;clear hr;go_enter Tryz.func45,Tryz.ntmps45;go_wp2_with(at_builtin;refine dU ((aJ).elem Tryz.underlying23) rfl _ _ rfl w.heap.size none 0 0 [] rfl (Can.nil _ _ _ _) _ xs.length _ (xs.flatMap (aJ).cells) rfl ((aJ).length _) HR.out ((aJ).rI _) (by rw[Nat.zero_add];exact hby) n_ ?_;intro a' c' w3 fc _ hb3 hown);go_returns;rw[Nat.zero_add,List.nil_append]at fc hown;have cE:cg w.heap.size none a':=by
  by_cases h0:0< xs.length
  ·exact cg.own (hown.1 h0) n_
  ·rw[(hown.2 o_).1];exact cg.nil _ _
 have hblt:∀b o s,a'=some ⟨b,o,s⟩→b< w3.heap.size:=fun b o s hab=>by
  by_cases h0:0< xs.length
  ·exact((hown.1 h0).lt b (by rw[hab];rfl)).2
  ·rw[(hown.2 o_).1]at hab;cases hab
 exact⟨a',c',rfl,cE,fc,fun h=>hown.1 h,hblt,hb3⟩
theorem Pg(xs:List aD)(a:Option Addr)(n c:Nat)(w:World)(hn:xs.length= n)(hby:n* (aB).bytes≤140737488355328)(hr:bF aB w a xs):
 Calls Tryz.prog 46 #[.slice a n c] w (CG w xs):=by
 subst hn;have HR:=h_ hr;clear hr;go_enter Tryz.func46,Tryz.ntmps46;go_wp2_with(at_builtin;refine dU ((aB).elem Tryz.underlying24) rfl _ _ rfl w.heap.size none 0 0 [] rfl (Can.nil _ _ _ _) _ xs.length _ (xs.flatMap (aB).cells) rfl ((aB).length _) HR.out ((aB).rI _) (by rw[Nat.zero_add];exact hby) n_ ?_;intro a' c' w3 fc _ hb3 hown);go_returns;rw[Nat.zero_add,List.nil_append]at fc hown;have cE:cg w.heap.size none a':=by
  by_cases h0:0< xs.length
  ·exact cg.own (hown.1 h0) n_
  ·rw[(hown.2 o_).1];exact cg.nil _ _
 have hblt:∀b o s,a'=some ⟨b,o,s⟩→b< w3.heap.size:=fun b o s hab=>by
  by_cases h0:0< xs.length
  ·exact((hown.1 h0).lt b (by rw[hab];rfl)).2
  ·rw[(hown.2 o_).1]at hab;cases hab
 exact⟨a',c',rfl,cE,fc,fun h=>hown.1 h,hblt,hb3⟩
theorem Pe(xs:List bR)(a:Option Addr)(n c:Nat)(w:World)(hn:xs.length= n)(hby:n* (ay).bytes≤140737488355328)(hr:bF ay w a xs):
 Calls Tryz.prog 47 #[.slice a n c] w (CE w xs):=by
 subst hn;have HR:=h_ hr;clear hr;go_enter Tryz.func47,Tryz.ntmps47;go_wp2_with(at_builtin;refine dU ((ay).elem Tryz.underlying25) rfl _ _ rfl w.heap.size none 0 0 [] rfl (Can.nil _ _ _ _) _ xs.length _ (xs.flatMap (ay).cells) rfl ((ay).length _) HR.out ((ay).rI _) (by rw[Nat.zero_add];exact hby) n_ ?_;intro a' c' w3 fc _ hb3 hown);go_returns;rw[Nat.zero_add,List.nil_append]at fc hown;have cE:cg w.heap.size none a':=by
  by_cases h0:0< xs.length
  ·exact cg.own (hown.1 h0) n_
  ·rw[(hown.2 o_).1];exact cg.nil _ _
 have hblt:∀b o s,a'=some ⟨b,o,s⟩→b< w3.heap.size:=fun b o s hab=>by
  by_cases h0:0< xs.length
  ·exact((hown.1 h0).lt b (by rw[hab];rfl)).2
  ·rw[(hown.2 o_).1]at hab;cases hab
 exact⟨a',c',rfl,cE,fc,fun h=>hown.1 h,hblt,hb3⟩
theorem jT(ls:List aV)(r:Raw)(id:Int)(w:World)(hl:ls.length= r.cG.n)(h64:ls.length≤ 1000)(hf:Fits ls)(hr:bF aJ w r.cG.a ls):
 Calls Tryz.prog 31 #[r.agg,.int .i64 id] w fun e w'=>e= .returned (.int .i64 (bV ls id))∧Below w.heap.size w w':=by
 obtain⟨term,ag,next,⟨a1,n1,c1⟩,⟨a,n,c⟩,⟨a3,n3,c3⟩,⟨a4,n4,c4⟩⟩:=r;simp only at hl hr;subst hl;have HF:=h_ hf;have gB:=h_ (fun(k:Nat) (hk:k≤ ls.length)=>fM id (hf.sub (m:=ls.take k) (fun x hx=>List.mem_of_mem_take hx)));have HT:=h_ (fun k (h:k< ls.length)=>CY h id);have HE:Hid (bV (ls.take ls.length) id=bV ls id):=by show _=_;rw[List.take_length]
 generalize bV ls id=res at HE ⊢;clear hf;go_enter Tryz.func31,Tryz.ntmps31;go_wp2;go_loopw [5,6] (fun z i wr=>∃k: Nat,∃v: Int,k≤ls.length∧ i= .int .i64 k∧z= .int .i64 v∧Hid (v=bV (ls.take k) id)∧Below (w.alloc (.cells (aw term ag next a1 n1 c1 a ls.length c a3 n3 c3 a4 n4 c4) 27)).heap.size (w.alloc (.cells (aw term ag next a1 n1 c1 a ls.length c a3 n3 c3 a4 n4 c4) 27)) wr) (fun _ i _=>ls.length- (intOf i).toNat)
 case atStart=>exact ⟨0,0,by omega,rfl,rfl,rfl,Below.refl _ _⟩
 case round=>
  obtain⟨k,v,hk,rfl,rfl,hv,hb0⟩:=hrel;have hb:Below w.heap.size w wr:=ah hb0;have fI:aU wr w.heap.size (aw term ag next a1 n1 c1 a ls.length c a3 n3 c3 a4 n4 c4):=aU.aR hb0;have k4:=fI.cell (j:=4) rfl;clear fI;by_cases hlt:k< ls.length
  ·have hR:=gB.out k hk;have hlen:(ls.take k).length=k:= by simp;omega
   rw[hlen,←hv.out]at hR;obtain⟨hR1,hR2⟩:=hR;have uA:=h_ (HT k hlt);have hX:=HF.out ls[k] (List.getElem_mem hlt);obtain⟨b,o,ha,hcs⟩:=zE hr hlt;subst ha;have hx:=hcs _ hb;generalize ls[k]=x at hx uA hX;clear hcs;obtain⟨ur,vK,G5,Ki,Kj,yC,Dr⟩:=x;obtain⟨x0,x1,_,_,_,x5,x6⟩:=hx;simp only at x1 x5 x6 hX;obtain⟨_,_,g1,g2,g3,g4⟩:=hX;have HB:=h_ hb0;by_cases he:vK= id
   ·have hw1:IntKind.i64.wrap (v+yC)=v+ yC:=IntWalk.i64_in _ ⟨by omega,by omega⟩;have hw2:IntKind.i64.wrap (v+yC- Dr)=v+ yC-Dr:= IntWalk.i64_in _ ⟨by omega,by omega⟩;subst he;go_wp2;go_quiet (fail);go_wp2;go_roundw
    case rel=>exact ⟨k+1,v+yC- Dr,by omega,by go_num,rfl,by show _=_;rw[uA.out,←hv.out];simp;omega,below_drewN HB.out _⟩
    case measure=>simp [intOf];omega
   ·go_wp2;go_roundw
    case rel=>exact ⟨k+1,v,by omega,by go_num,rfl,by show _=_;rw[uA.out,←hv.out];simp[he],HB.out⟩
    case measure=>simp [intOf];omega
  ·obtain rfl:k= ls.length:=o_;go_wp2;go_returns;exact⟨dZ (hv.out.trans HE.out),hb⟩
def jN(s:St):Bool:= eu s.ax s.next s.ai&&decide (s.ai.length≤64∧ 1≤s.next∧ s.next≤1099511627776)
theorem Gh{ls:List aV}{ts:List aj}{next:Int}{k:Nat}(h:eu ts next (ls.take k)=true):0≤ cU aV.id 0 (ls.take k):=pT h
theorem wZ {P:Prop}(h:P:=by
 repeat(go_big_quiet_step (fail))
 refine wpQuiet_nil ?_;intro _ hw';obtain⟨nq,hw2⟩:=hw';subst hw2;go_wp2;go_returns
 exact⟨bZ HO.symm,below_drewN cN.out _⟩):P:=h
theorem tq23 {P:Prop}(h:P:=by
 by_cases c0:G5< 1
 ·have HO:=h_ (kX (iO (fun h=>by unfold rG at h;have:=Qe.out;simp only at h;omega)));have d0:decide (G5<1)=true:= decide_eq_true c0;exact wZ
 have d0:decide (G5<1)=false:= decide_eq_false c0;by_cases c1:8< G5
 ·have HO:=h_ (kX (iO (fun h=>by unfold rG at h;have:=Qe.out;simp only at h;omega)));have d1:decide (8<G5)=true:= decide_eq_true c1;exact wZ
 have d1:decide (8<G5)=false:= decide_eq_false c1;by_cases c2:Ki< 1
 ·have HO:=h_ (kX (iO (fun h=>by unfold rG at h;have:=Qe.out;simp only at h;omega)));have d2:decide (Ki<1)=true:= decide_eq_true c2;exact wZ
 have d2:decide (Ki<1)=false:= decide_eq_false c2;by_cases c3:Kj< 1
 ·have HO:=h_ (kX (iO (fun h=>by unfold rG at h;have:=Qe.out;simp only at h;omega)));have d3:decide (Kj<1)=true:= decide_eq_true c3;exact wZ
 have d3:decide (Kj<1)=false:= decide_eq_false c3;by_cases c4:yC< 1
 ·have HO:=h_ (kX (iO (fun h=>by unfold rG at h;have:=Qe.out;simp only at h;omega)));have d4:decide (yC<1)=true:= decide_eq_true c4;exact wZ
 have d4:decide (yC<1)=false:= decide_eq_false c4;by_cases c5:1000000< yC
 ·have HO:=h_ (kX (iO (fun h=>by unfold rG at h;have:=Qe.out;simp only at h;omega)));have d5:decide (1000000<yC)=true:= decide_eq_true c5;exact wZ
 have d5:decide (1000000<yC)=false:= decide_eq_false c5;by_cases c6:Dr< 0
 ·have HO:=h_ (kX (iO (fun h=>by unfold rG at h;have:=Qe.out;simp only at h;omega)));have d6:decide (Dr<0)=true:= decide_eq_true c6;exact wZ
 have d6:decide (Dr<0)=false:= decide_eq_false c6;by_cases c7:yC≤ Dr
 ·have HO:=h_ (kX (iO (fun h=>by unfold rG at h;have:=Qe.out;simp only at h;omega)));have d7:decide (yC≤Dr)=true:= decide_eq_true c7;exact wZ
 have d7:decide (yC≤Dr)=false:= decide_eq_false c7;have zm:=h_ (pn (by unfold rG;have:=Qe.out;refine⟨rfl,?_⟩;simp only;omega))
 repeat(go_big_quiet_step (fail))
 refine wpQuiet_nil ?_;intro _ hw';obtain⟨nq,hw2⟩:=hw';subst hw2;go_wp2;go_roundw
 case rel=>exact ⟨k+1,by omega,by go_num,zm.out,below_drewN kO.out _⟩
 case measure=>simp [intOf];omega):P:=h
theorem Ev(s:St)(r:Raw)(B:Nat)(w:World)(h:aX w B r s)(ht:aZ 0 s.ax=true)(hl:s.ax.length≤ 900)(hl2:s.ai.length≤ 900):
 Calls Tryz.prog 54 #[r.agg] w fun e w'=>e= .returned (.bool (jN s))∧Below w.heap.size w w':=by
 obtain⟨term,ag,next,⟨a1,n1,c1⟩,⟨a2,n2,c2⟩,⟨a3,n3,c3⟩,⟨a4,n4,c4⟩⟩:=r;obtain⟨ml,jA,nx,ts,ls,ss,ds⟩:=s;have hnx:=h.next;have J0:=h.cD.len;have iX:=h.cG.len;have hr1:=h.jV;have hr2:=h.cG.row;simp only at hnx J0 iX hr1 hr2 hl hl2;subst hnx;subst J0;subst iX;clear h;have hmax:ts.length≤ maxLen:=bD o_;have kX:Hid (eu ts next ls=false→ jN ⟨ml,jA,next,ts,ls,ss,ds⟩=false):=fun h=>by unfold jN;rw[h];rfl
 have vO:Hid (eu ts next ls=true→ decide (ls.length≤64∧ 1≤next∧ next≤1099511627776)=jN ⟨ml,jA,next,ts,ls,ss,ds⟩):=fun h=>by unfold jN;rw[h];rfl
 generalize jN ⟨ml,jA,next,ts,ls,ss,ds⟩=res at kX vO ⊢;have HN:=h_ (fun k (h:k< ls.length)=>xK (ts:=ts) (next:=next) h);have HX:=h_ (fun k (h:k< ls.length)=>Aj (ts:=ts) (next:=next) h);have HL:Hid (∀k (h:k< ls.length),cU aV.id 0 (ls.take (k+1))=ls[k].id):=fun k h=>jt (key:=aV.id) (a:=0) h
 have HP:=h_ (fun k=>Gh (ls:=ls) (ts:=ts) (next:=next) (k:=k));have H0:Hid (eu ts next (ls.take 0)=true):=rfl;go_enter Tryz.func54,Tryz.ntmps54;go_wp2;go_loopw [3] (fun i wr=>∃k: Nat,k≤ls.length∧ i= .int .i64 k∧Hid (eu ts next (ls.take k)=true)∧Below (World.alloc w (.cells (aw term ag next a1 ts.length c1 a2 ls.length c2 a3 n3 c3 a4 n4 c4) 27)).heap.size (World.alloc w (.cells (aw term ag next a1 ts.length c1 a2 ls.length c2 a3 n3 c3 a4 n4 c4) 27)) wr) (fun i _=>ls.length- (intOf i).toNat)
 case atStart=>exact ⟨0,by omega,rfl,H0.out,Below.refl _ _⟩
 case round=>
  obtain⟨k,hk,rfl,hok,hb0⟩:=hrel;have hb:Below w.heap.size w wr:=ah hb0;have hx3:=aW hb0;have Tu:=Below.boxed hb0;by_cases hlt:k< ls.length
  ·have pn:=h_ (HN k hlt hok.out);have iO:=h_ (HX k hlt);have TM:=h_ (HP k hok.out);have EX:Hid (∀j,k=j+ 1→∃(h:j< ls.length),cU aV.id 0 (ls.take k)=ls[j].id):=fun j e=>by subst e;exact⟨by omega,HL.out j o_⟩
   have SL:Hid (k=0→ cU aV.id 0 (ls.take k)=0):=fun e=>by subst e;rfl
   obtain⟨b,o,rfl,hcs⟩:=zE hr2 hlt;have hx:=hcs _ hb;generalize ls[k]=x at hx pn iO;generalize cU aV.id 0 (ls.take k)=la at pn iO TM EX SL;clear hcs;obtain⟨ur,vK,G5,Ki,Kj,yC,Dr⟩:=x;rcases fk:bf ts vK with⟨⟨cM,bH,aN,aL,fK⟩,ok⟩;have qD:=h_ fk;simp only[fk]at pn iO;clear fk;go_wp2_with(go_at_call 92;((with_reducible refine(dS ts a1 _ _ _ _ rfl hmax (hr1.below aH)).mono ?_);rw[qD.out];rintro e w4 ⟨rfl,hb4⟩;have El:Below (World.alloc wr (.cells (xd ur vK G5 Ki Kj yC Dr) 59)).heap.size (World.alloc wr (.cells (xd ur vK G5 Ki Kj yC Dr) 59)) w4:=aH;have D7:=aW El;have zx4:=aY El;have sx4:=Below.boxed El;clear El;have cv:Below (World.alloc w (.cells (aw term ag next a1 ts.length c1 (some ⟨b,o,none⟩) ls.length c2 a3 n3 c3 a4 n4 c4) 27)).heap.size (World.alloc w (.cells (aw term ag next a1 ts.length c1 (some ⟨b,o,none⟩) ls.length c2 a3 n3 c3 a4 n4 c4) 27)) w4:=aH;have J4:=aW cv;have sx5:=Below.boxed cv));have kO:=h_ (show Below (World.alloc w (.cells (aw term ag next a1 ts.length c1 (some ⟨b,o,none⟩) ls.length c2 a3 n3 c3 a4 n4 c4) 27)).heap.size (World.alloc w (.cells (aw term ag next a1 ts.length c1 (some ⟨b,o,none⟩) ls.length c2 a3 n3 c3 a4 n4 c4) 27)) (w4.alloc (.cells (gW cM bH aN aL fK) 75))from cv.alloc cv.size _);have cN:=h_ (ah kO.out);have Hy:=h_ (show Below w.heap.size w w4 from ah cv);clear hx3 Tu;refine wp_region_quiet_lit k_ k_ ?_;by_cases e1:ur< 1
   ·have HO:=h_ (kX (iO (fun h=>by unfold rG at h;have:=TM.out;simp only at h;omega)));have d1:decide (ur<1)=true:= decide_eq_true e1;exact wZ
   have d1:decide (ur<1)=false:= decide_eq_false e1;by_cases e2:next≤ ur
   ·have HO:=h_ (kX (iO (fun h=>by unfold rG at h;simp only at h;omega)));have d2:decide (next≤ur)=true:= decide_eq_true e2;exact wZ
   have d2:decide (next≤ur)=false:= decide_eq_false e2;by_cases FN:k= 0
   ·have Qe:Hid (la<ur):=by show la<ur;rw[SL.out FN];omega
    have kz:decide ((0:Int)<(k:Int))=false:= by simp;omega
    have kz2:decide (0<k)=false:= by simp;omega
    clear FN;cases ok with
    |false=>
     have HO:=h_ (kX (iO (fun h=>by have:=h.1;cases this)));exact wZ
    |true=>
     exact tq23
   ·obtain⟨hj,EP⟩:=EX.out (k-1) o_;have kp:(0:Int)<(k:Int):=o_;have kp2:0< k:=o_;obtain⟨b',o',e',hcs'⟩:=zE hr2 hj;simp only[Option.some.injEq,Addr.mk.injEq,and_true]at e';obtain⟨rfl,rfl⟩:=e';have Hh:=(hcs' _ Hy.out).1;have hblt:b< w4.heap.size:=World.block_lt_of_cell? _ _ Hh;rw[←EP]at Hh;have W1:IntKind.i64.wrap ((k:Int)-1)=(k:Int)-1:= IntWalk.i64_in _ ⟨by omega,by omega⟩;have W2:(0:Int)≤(k:Int)-1:= o_;have W3:((k:Int)-1).toNat=k- 1:=o_;have W4:(k:Int)-1< (ls.length:Int):=o_;clear hcs' FN EP;by_cases e3:ur≤ la
    ·have HO:=h_ (kX (iO (fun h=>by unfold rG at h;simp only at h;omega)));have d3:decide (ur≤la)=true:= decide_eq_true e3;exact wZ
    have d3:decide (ur≤la)=false:= decide_eq_false e3;have Qe:Hid (la<ur):=by show la<ur;omega
    cases ok with
    |false=>
     have HO:=h_ (kX (iO (fun h=>by have:=h.1;cases this)));exact wZ
    |true=>
     exact tq23
  ·obtain rfl:k= ls.length:=o_;have hlk:eu ts next ls=true:= by have:=hok.out;rw[List.take_length]at this;exact this
   have HO:=h_ (vO hlk);clear hlk;by_cases g1:ls.length≤ 64
   ·by_cases g2:1≤ next
    ·go_wp2;go_returns;exact⟨bZ (by rw[←HO.out,Bool.eq_iff_iff];simp only[decide_eq_true_iff];omega),hb⟩
    ·go_wp2;go_returns;exact⟨bZ (by rw[←HO.out];symm;exact decide_eq_false o_),hb⟩
   ·go_wp2;go_returns;exact⟨bZ (by rw[←HO.out];symm;exact decide_eq_false o_),hb⟩
end Go.Proofs.YtfdmhpohfjbpfaaGreat
