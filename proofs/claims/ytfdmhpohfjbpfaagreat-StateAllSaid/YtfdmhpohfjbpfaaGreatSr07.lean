import Derived.Test.YtfdmhpohfjbpfaaGreatSr05
set_option linter.unusedVariables false
set_option linter.unusedSimpArgs false
namespace Go.Proofs.YtfdmhpohfjbpfaaGreat
open Go.ChangeShapes Go.WideShapes Go.ChangeAt Go.RowKit
set_option maxRecDepth 100000
set_option maxHeartbeats 16000000
def sA(s:aD):Bool:= decide (s.aA≤16)&&decide (1≤s.number)
def dg(l:List aD):Bool:= eU aD.aA sA 0 l
theorem xR{l:List aD}{k:Nat}(h:k< l.length)(hk:dg (l.take k)=true)(h1:cU aD.aA 0 (l.take k)<l[k].aA)(h2:l[k].aA≤16)(h3:1≤ l[k].number):dg (l.take (k+1))=true:= by
 unfold dg at*;rw[mv h,hk];simp[sA,h1,h2,h3]
theorem A4{l:List aD}{k:Nat}(h:k< l.length)(h1:¬(cU aD.aA 0 (l.take k)<l[k].aA∧l[k].aA≤16∧ 1≤l[k].number)):dg l=false:= by
 refine rh h ?_;unfold sA;by_cases a:cU aD.aA 0 (l.take k)<l[k].aA<;>by_cases b:l[k].aA≤16<;>by_cases c:1≤ l[k].number<;>simp [a,b,c]
 exact h1 ⟨a,b,c⟩
theorem rU(l:List aD)(a:Option Addr)(n c:Nat)(w:World)(hn:l.length= n)(hl:n≤ maxLen)(hr:bF aB w a l):
 Calls Tryz.prog 42 #[.slice a n c] w fun e w'=>e= .returned (.bool (dg l))∧Below w.heap.size w w':=by
 subst hn;have hl2:=cX hl;have HB:=h_ (fun k (h:k< l.length)=>A4 h);have HT:Hid (dg (l.take l.length)=true→ dg l=true):=fun h=>by rw[List.take_length]at h;exact h
 have H0:Hid (dg (l.take 0)=true):=rfl;have HN:=h_ (fun k (h:k< l.length)=>xR h);have HL:=h_ (fun k (h:k< l.length)=>jt (key:=aD.aA) (a:=0) h);generalize hres:dg l=res at HB HT ⊢;clear hres;go_enter Tryz.func42,Tryz.ntmps42;go_wp2;go_loopw [3,8] (fun la i wr=>∃k: Nat,k≤l.length∧ i= .int .i64 k∧la= .int .i64 (cU aD.aA 0 (l.take k))∧Hid (dg (l.take k)=true)∧Below w.heap.size w wr) (fun _ i _=>l.length- (intOf i).toNat)
 case atStart=>exact ⟨0,by omega,rfl,rfl,H0,Below.refl _ _⟩
 case round=>
  obtain⟨k,hk,rfl,rfl,hok,hb⟩:=hrel;by_cases hlt:k< l.length
  ·obtain⟨b,o,rfl,hcs⟩:=ql hr hlt;have hx:=hcs _ hb;have iJ:=h_ (HB k hlt);have pn:=h_ (HN k hlt hok.out);have qj:=h_ (HL k hlt);generalize l[k]=x at hx iJ pn qj;generalize cU aD.aA 0 (l.take k)=la at iJ pn ⊢;clear hcs;by_cases hgo:la< x.aA∧x.aA≤ 16∧1≤ x.number
   ·obtain⟨h1,h2,h3⟩:=hgo;have zm:=h_ (pn h1 h2 h3);go_wp2;go_roundw
    case rel=>exact ⟨k+1,by omega,by go_num,by rw[qj.out],zm.out,aH⟩
    case measure=>simp [intOf];omega
   ·have HG:=h_ hgo;have HO:=h_ (iJ hgo);clear hgo;go_wp2
    all_goals first
     |(go_returns;exact⟨bZ HO.symm,aH⟩)
     |(exfalso;have:=HG.out;omega)
  ·obtain rfl:k= l.length:=o_;have HO:=h_ (HT hok.out);go_wp2;go_returns;exact⟨bZ HO.symm,hb⟩
theorem VH {P:Prop}(h:P:=by
 go_wp2;go_quiet (fail);go_wp2;go_returns
 exact⟨bZ HO.symm,below_drewN hb _⟩):P:=h
theorem mD(l:List aD)(a:Option Addr)(n c:Nat)(w:World)(hn:l.length= n)(hl:n≤ maxLen)(hr:bF aB w a l):
 Calls Tryz.prog 27 #[.slice a n c] w fun e w'=>e= .returned (.bool (dg l))∧Below w.heap.size w w':=by
 subst hn;have hl2:=cX hl;have HB:=h_ (fun k (h:k< l.length)=>A4 h);have HT:Hid (dg (l.take l.length)=true→ dg l=true):=fun h=>by rw[List.take_length]at h;exact h
 have H0:Hid (dg (l.take 0)=true):=rfl;have HN:=h_ (fun k (h:k< l.length)=>xR h);have HL:=h_ (fun k (h:k< l.length)=>jt (key:=aD.aA) (a:=0) h);have TM:Hid (∀k,dg (l.take k)=true→ 0≤cU aD.aA 0 (l.take k)):=fun k h=>pT h
 generalize hres:dg l=res at HB HT ⊢;clear hres;go_enter Tryz.func27,Tryz.ntmps27;go_wp2;go_loopw [3] (fun i wr=>∃k: Nat,k≤l.length∧ i= .int .i64 k∧Hid (dg (l.take k)=true)∧Below w.heap.size w wr) (fun i _=>l.length- (intOf i).toNat)
 case atStart=>exact ⟨0,by omega,rfl,H0,Below.refl _ _⟩
 case round=>
  obtain⟨k,hk,rfl,hok,hb⟩:=hrel;by_cases hlt:k< l.length
  ·obtain⟨b,o,rfl,hcs⟩:=ql hr hlt;obtain⟨hx0,hx1,_⟩:=hcs _ hb;have iJ:=h_ (HB k hlt);have pn:=h_ (HN k hlt hok.out);have hge:=TM.out k hok.out;cases k with
   |zero=>
    clear hcs;have EP:cU aD.aA 0 (l.take 0)=0:= rfl;rw[EP]at iJ pn;generalize l[0]=x at hx0 hx1 iJ pn;simp only[Nat.zero_mul,Nat.add_zero]at hx0 hx1;clear EP hge;by_cases h1:x.aA< 1
    ·have HO:=h_ (iJ o_);have g1:decide (x.aA<1)=true:= decide_eq_true h1;exact VH
    have g1:decide (x.aA<1)=false:= decide_eq_false h1;by_cases h2:16< x.aA
    ·have HO:=h_ (iJ o_);have g2:decide (16<x.aA)=true:= decide_eq_true h2;exact VH
    have g2:decide (16<x.aA)=false:= decide_eq_false h2;by_cases h3:x.number< 1
    ·have HO:=h_ (iJ o_);have g3:decide (x.number<1)=true:= decide_eq_true h3;exact VH
    have g3:decide (x.number<1)=false:= decide_eq_false h3;have zm:=h_ (pn o_ o_ o_);go_wp2;go_quiet (fail);go_wp2;go_roundw
    case rel=>exact ⟨1,by omega,rfl,zm.out,below_drewN hb _⟩
    case measure=>simp [intOf];omega
   |succ j=>
    have hjl:j< l.length:=o_;obtain⟨b2,o2,e2,Oc⟩:=ql hr hjl;simp only[Option.some.injEq,Addr.mk.injEq,and_true]at e2;obtain⟨rfl,rfl⟩:=e2;obtain⟨hp0,_⟩:=Oc _ hb;have EP:=HL.out j hjl;rw[EP]at iJ pn hge;generalize l[j+1]=x at hx0 hx1 iJ pn;generalize l[j]=p at hp0 iJ pn hge;clear hcs Oc EP;have hw1:IntKind.i64.wrap ((j:Int)+1- 1)=(j:Int):=by rw[IntKind.wrap_i64];omega
    have g0:decide (0<(j:Int)+1)=true:= decide_eq_true o_;by_cases h1:x.aA< 1
    ·have HO:=h_ (iJ o_);have g1:decide (x.aA<1)=true:= decide_eq_true h1;exact VH
    have g1:decide (x.aA<1)=false:= decide_eq_false h1;by_cases h2:16< x.aA
    ·have HO:=h_ (iJ o_);have g2:decide (16<x.aA)=true:= decide_eq_true h2;exact VH
    have g2:decide (16<x.aA)=false:= decide_eq_false h2;by_cases h3:x.number< 1
    ·have HO:=h_ (iJ o_);have g3:decide (x.number<1)=true:= decide_eq_true h3;exact VH
    have g3:decide (x.number<1)=false:= decide_eq_false h3;by_cases h4:x.aA≤ p.aA
    ·have HO:=h_ (iJ o_);have g4:decide (x.aA≤p.aA)=true:= decide_eq_true h4;exact VH
    have g4:decide (x.aA≤p.aA)=false:= decide_eq_false h4;have zm:=h_ (pn o_ o_ o_);go_wp2;go_quiet (fail);go_wp2;go_roundw
    case rel=>exact ⟨j+1+ 1,by omega,by go_num,zm.out,below_drewN hb _⟩
    case measure=>simp [intOf];omega
  ·obtain rfl:k= l.length:=o_;have HO:=h_ (HT hok.out);go_wp2;go_returns;exact⟨bZ HO.symm,hb⟩
end Go.Proofs.YtfdmhpohfjbpfaaGreat
namespace Go.Proofs.YtfdmhpohfjbpfaaGreat
open Go.ChangeShapes Go.WideShapes Go.ChangeAt Go.RowKit Go.Maps
set_option maxRecDepth 100000
set_option maxHeartbeats 16000000
def Ge:jJ Tryz.prog 199 Int where
 keyed:=Keyed.of_law (deep_law_laid k_ (m:=20) o_ (of_decide_eq_true k_) k_ k_)
 enc n:= .agg #[.int .i64 n]
 kl n:= .string (keyBytes [.int .i64 n])
 good n:=(Lit.int .i64 n).wf=true
 key n h:=sV Tryz.underlying199 rfl rfl rfl k_ k_ k_ Tryz.underlying3 ⟨Tryz.prog.types.size-1,by kernel_rfl⟩ h
 inj _ _ h:=by simpa using h
def vV(l:List aD)(k:Nat)(f:Int→ Option Int):Prop:=
 ∀id,(f id=none∧ ∀j (h:j< l.length),j<k→ l[j].aA≠id)∨∃j,∃h: j<l.length,j<k∧ l[j].aA=id∧ f id=some (j:Int)
theorem vV.zero(l:List aD):vV l 0 (fun _=>none):=fun id=> .inl ⟨rfl,fun j _ hj=>by omega⟩
theorem vV.next{l:List aD}{k:Nat}{f:Int→ Option Int}(h:vV l k f)(hk:k< l.length):vV l (k+1) (VM f l[k].aA (k:Int)):=fun id=>by
 unfold VM;by_cases e:id= l[k].aA
 ·rw[if_pos e];exact .inr ⟨k,hk,by omega,e.symm,rfl⟩
 ·rw[if_neg e];rcases h id with⟨h1,h2⟩|⟨j,hj,h1,h2,h3⟩
  ·refine .inl ⟨h1,fun j hj hjk=> ?_⟩;by_cases e2:j= k
   ·subst e2;exact fun h=>e h.symm
   ·exact h2 j hj o_
  ·exact .inr ⟨j,hj,by omega,h2,h3⟩
theorem vV.find{l:List aD}{f:Int→ Option Int}(h:vV l l.length f)(hs:dg l=true)(id:Int):
 (f id=none∧ fN aD.aA l id=none)∨∃j,∃hj: j<l.length,f id=some (j:Int)∧fN aD.aA l id=some l[j]:=by
 rcases h id with⟨h1,h2⟩|⟨j,hj,h1,h2,h3⟩
 ·exact .inl ⟨h1,tR fun j hj=>h2 j hj hj⟩
 ·exact .inr ⟨j,hj,h3,zN (ck.1 hs).2 hj h2⟩
theorem iN{n:Int}(h1: -1000000000000≤ n)(h2:n≤ 1000000000000):(Lit.int .i64 n).wf=true:= by
 exact Go.WalkArith.wf_i64 ⟨by omega,by omega⟩
def XN(l:List aD)(w:World)(e:Ending)(w':World):Prop:= ∃b f,e= .returned (.map (some b))∧w.heap.size≤ b∧vV l l.length f∧iP Ge 3 w' b l.length f∧Below w.heap.size w w'
theorem AJ(l:List aD)(a:Option Addr)(n c:Nat)(w:World)(hn:l.length= n)(hl:n≤ 1000000)(hr:bF aB w a l)(hwf:∀s∈ l,(Lit.int .i64 s.aA).wf=true):
 Calls Tryz.prog 174 #[.slice a n c] w (XN l w):=by
 subst hn;have hmax:l.length< maxLen:=by unfold maxLen;omega
 have hmm:= @run_makeMap Tryz.prog;have xY:=h_ hwf;clear hwf;go_enter Tryz.func174,Tryz.ntmps174;go_wp2;go_loopw [9] (fun i wr=>∃k: Nat,∃f,k≤l.length∧ i= .int .i64 k∧Hid (vV l k f)∧Hid (iP Ge 3 wr w.heap.size k f)∧Below w.heap.size w wr) (fun i _=>l.length- (intOf i).toNat)
 case atStart=>exact ⟨0,fun _=>none,by omega,rfl,vV.zero l,iP.made w,b_.alloc n_ _⟩
 case round=>
  obtain⟨k,f,hk,rfl,hp,hm,hb⟩:=hrel;by_cases hlt:k< l.length
  ·obtain⟨b,o,rfl,hcs⟩:=ql hr hlt;have hx:=hcs _ hb;have M8:=h_ (hp.out.next hlt);have HW:=h_ (xY l[k] (List.getElem_mem hlt));generalize l[k]=x at hx M8 HW;have hmb:=hm.out.lt;clear hcs;go_wp2_with(refine lW Ge Tryz.underlying196 Tryz.underlying3 rfl (.tmp 14) (.tmp 17) (.tmp 18) rfl w.heap.size k f rfl (hm.out.alloc _) o_ x.aA HW.out rfl k rfl (iN o_ o_) ?_;intro w3 IX hg3);exact⟨⟨k+1,_,by omega,by go_num,M8.out,IX,(hb.alloc hb.size _).grown hg3 (by have:=hb.size;simp;omega) (fun _ h=>by cases h;exact Nat.le_refl _)⟩,by simp[intOf];omega⟩
  ·obtain rfl:k= l.length:=o_;go_wp2;go_returns;exact⟨w.heap.size,f,rfl,Nat.le_refl _,hp.out,hm.out,hb⟩
def tq:aD:= ⟨0,0,bS.err 0⟩
def iK(l:List aD)(id:Int):aD× Bool:=match fN aD.aA l id with|some s=>(s,true)|none=> (tq,false)
def XP(w:World)(r:aD× Bool)(e:Ending)(w':World):Prop:= e= .returned (.tuple #[r.1.agg,.bool r.2])∧Below w.heap.size w w'
theorem wW{l:List aD}(hs:dg l=true):∀s∈ l,1≤s.aA∧ s.aA≤16∧ 1≤s.number:= fun s h=>by
 have h1:=(ck.1 hs).1 s h;have h2:=h1.2;unfold sA at h2;simp only[Bool.and_eq_true,decide_eq_true_eq]at h2;omega
theorem np(w:World):(zeroValue 3).run Tryz.prog w= .ok (.int .i64 0) w:=k_
theorem uL(l:List aD)(a:Option Addr)(n c:Nat)(id:Int)(w:World)(hn:l.length= n)(hl:n≤ 1000000)(hr:bF aB w a l)(hs:dg l=true)(hid:(Lit.int .i64 id).wf=true):
 Calls Tryz.prog 158 (Bp a n c id) w (XP w (iK l id)):=by
 subst hn;have HP:=h_ (fun f (h:vV l l.length f)=>h.find hs id);have xY:=h_ (fun s h=>iN (n:=aD.aA s) (by have:=wW hs s h;omega) (by have:=wW hs s h;omega));have yG:=h_ hid;have HR:Hid (iK l id=match fN aD.aA l id with|some s=>(s,true)|none=> (tq,false)):=rfl;generalize iK l id=res at HR ⊢;clear hs hid;by_cases h0:∃s,fN aD.aA l id=some s
 ·obtain⟨s,h0⟩:=h0;have HPS:Hid (∀f,vV l l.length f→∃j,∃hj: j<l.length,f id=some (j:Int)∧l[j]=s):=fun f hf=>by
   rcases HP.out f hf with⟨_,h2⟩|⟨j,hj,h1,h2⟩
   ·rw[h0]at h2;cases h2
   ·rw[h0]at h2;exact⟨j,hj,h1,by simpa using h2.symm⟩
  have H0:Hid (res=(s,true)):=by show _=_;rw[HR.out,h0]
  obtain⟨j0,hj0,_⟩:∃j,∃hj: j<l.length,l[j]=s:= List.mem_iff_getElem.1 (wD h0).1;obtain⟨b,o,rfl,_⟩:=ql hr hj0;clear h0 HP;go_enter Tryz.func158,Tryz.ntmps158;go_wp2_with(first|(go_at_call 174;((with_reducible refine(AJ l _ _ _ _ rfl hl (bF.below hr aH) xY.out).mono ?_);rintro e w2 ⟨mb,f,rfl,hmb,hf,hm,hb2⟩;have HF:=HPS.out f hf;have HM:=h_ hm;have QC:=h_ (oI hb2);have gB:=h_ (jY (cs:=tq.cells) hb2);have hsz:=Below.boxed hb2;have UM:Below w.heap.size w w2:=aH;clear hf hm;obtain⟨j,hj,h1,hjs⟩:=HF;obtain⟨b2,o2,e2,hcs⟩:=bF.range hr hj;simp only[Option.some.injEq,Addr.mk.injEq,and_true]at e2;obtain⟨rfl,rfl⟩:=e2;have hx:=hcs w2 aH;rw[hjs]at hx;have HX:=h_ hx;clear hcs hx hjs))|(refine gU Ge Tryz.underlying196 Tryz.underlying3 np rfl (.tmp 9) (.tmp 11) rfl mb l.length f rfl HM.out id yG.out rfl ?_)|(refine bQ aB rfl (.tmp 18) rfl b (o+j* 7) rfl s HX.out ?_)|(refine cO aB rfl (.tmp 4) (.tmp 19) rfl w.heap.size 0 s rfl rfl QC.out ?_;intro w4 hr4 MC hb4 hs4;have qX:=h_ hr4;have Wd:=h_ MC;have cL:=hb4 w.heap.size n_;clear hr4 hb4 MC)|(refine bQ aB rfl (.tmp 4) rfl w.heap.size 0 rfl s qX.out ?_)|(refine cO aB rfl (.tmp 4) (.tmp 20) rfl w.heap.size 0 s rfl rfl Wd.out ?_;intro w5 sL _ cv hs5;have Dx:=h_ sL;have df:=cv w.heap.size n_;clear sL cv));obtain⟨c0,c1,c2,c3,c4,c5,c6⟩:=kA Dx.out;simp only[Nat.zero_add]at c1 c2 c3 c4 c5 c6;refine bodyPost_ret (v:= .tuple #[s.agg,.bool true]) (by simp[results,Tryz.results158,go_sem,c0,c1,c2,c3,c4,c5,c6]) rfl ?_;exact⟨by rw[H0.out],(UM.trans cL).trans df⟩
 ·have h1:fN aD.aA l id=none:= by
   cases h:fN aD.aA l id with
   |none=> rfl
   |some s=>exact absurd ⟨s,h⟩ h0
  have HPN:Hid (∀f,vV l l.length f→f id=none):=fun f hf=>by
   rcases HP.out f hf with⟨h2,_⟩|⟨j,hj,_,h2⟩
   ·exact h2
   ·rw[h1]at h2;cases h2
  have H0:Hid (res=(tq,false)):=by show _=_;rw[HR.out,h1]
  clear h0 h1 HP;go_enter Tryz.func158,Tryz.ntmps158;go_wp2_with(first|(go_at_call 174;((with_reducible refine(AJ l _ _ _ _ rfl hl (bF.below hr aH) xY.out).mono ?_);rintro e w2 ⟨mb,f,rfl,hmb,hf,hm,hb2⟩;have HF:=HPN.out f hf;have HM:=h_ hm;have QC:=h_ (oI hb2);have gB:=h_ (jY (cs:=tq.cells) hb2);have hsz:=Below.boxed hb2;have UM:Below w.heap.size w w2:=aH;clear hf hm;have h1:=HF))|(refine gU Ge Tryz.underlying196 Tryz.underlying3 np rfl (.tmp 9) (.tmp 11) rfl mb l.length f rfl HM.out id yG.out rfl ?_)|(refine bQ aB rfl (.tmp 4) rfl w.heap.size 0 rfl tq gB.out ?_)|(refine cO aB rfl (.tmp 4) (.tmp 20) rfl w.heap.size 0 tq rfl rfl QC.out ?_;intro w5 sL _ cv hs5;have Dx:=h_ sL;have df:=cv w.heap.size n_;clear sL cv));obtain⟨c0,c1,c2,c3,c4,c5,c6⟩:=kA Dx.out;simp only[Nat.zero_add]at c1 c2 c3 c4 c5 c6;refine bodyPost_ret (v:= .tuple #[tq.agg,.bool false]) (by simp[results,Tryz.results158,go_sem,c0,c1,c2,c3,c4,c5,c6]) rfl ?_;exact⟨by rw[H0.out],UM.trans df⟩
end Go.Proofs.YtfdmhpohfjbpfaaGreat
namespace Go.Proofs.YtfdmhpohfjbpfaaGreat
open Go.ChangeShapes Go.WideShapes Go.ChangeAt Go.RowKit
set_option maxRecDepth 100000
set_option maxHeartbeats 16000000
def oY(l:List aD)(c n:Int):Bool:= dg l&&(decide (1≤c)&&(decide (c≤16)&&decide (1≤n)))
def lQ(l:List aD)(id:Int):Int:= if dg l=true then(iK l id).1.number else 0
def mr(l:List aD)(c n:Int):bS× Bool×Int:=
 if oY l c n=false then(bS.err 0,false,2)else if n<(iK l c).1.number then(bS.err 0,false,150)else if n=(iK l c).1.number then((iK l c).1.answer,false,0)else(bS.err 0,true,0)
theorem pU(l:List aD)(a:Option Addr)(n c:Nat)(id num:Int)(w:World)(hn:l.length= n)(hl:n≤ maxLen)(hr:bF aB w a l):
 Calls Tryz.prog 157 (uk a n c id num) w fun e w'=>e= .returned (.bool (oY l id num))∧Below w.heap.size w w':=by
 have HM:Hid (oY l id num=(dg l&&(decide (1≤id)&&(decide (id≤16)&&decide (1≤num))))):=rfl;generalize oY l id num=res at HM ⊢;cases hs:dg l<;>cases h1:decide (1≤id)<;>cases h2:decide (id≤16)
 all_goals
  have HS:=h_ hs;rw[hs,h1,h2]at HM;clear hs;go_enter Tryz.func157,Tryz.ntmps157;go_wp2_with(go_at_call 42;((with_reducible refine(rU l _ _ _ _ hn hl hr).mono ?_);rw[HS.out];rintro e w2 ⟨rfl,hb⟩));go_returns;exact⟨bZ (by rw[HM.out];simp),hb⟩
theorem jS(l:List aD)(a:Option Addr)(n c:Nat)(id num:Int)(w:World)(hn:l.length= n)(hl:n≤ maxLen)(hr:bF aB w a l):
 Calls Tryz.prog 141 (uk a n c id num) w fun e w'=>e= .returned (.bool (oY l id num))∧Below w.heap.size w w':=by
 have HM:Hid (oY l id num=(dg l&&(decide (1≤id)&&(decide (id≤16)&&decide (1≤num))))):=rfl;generalize oY l id num=res at HM ⊢;cases hs:dg l<;>cases h1:decide (1≤id)<;>cases h2:decide (id≤16)
 all_goals
  have HS:=h_ hs;rw[hs,h1,h2]at HM;clear hs;go_enter Tryz.func141,Tryz.ntmps141;go_wp2_with(go_at_call 27;((with_reducible refine(mD l _ _ _ _ hn hl hr).mono ?_);rw[HS.out];rintro e w2 ⟨rfl,hb⟩));go_returns;exact⟨bZ (by rw[HM.out];simp),hb⟩
theorem Gi(l:List aD)(a:Option Addr)(n c:Nat)(id:Int)(w:World)(hn:l.length= n)(hl:n≤ 1000000)(hr:bF aB w a l)(hid:(Lit.int .i64 id).wf=true):
 Calls Tryz.prog 159 (Bp a n c id) w fun e w'=>e= .returned (.int .i64 (lQ l id))∧Below w.heap.size w w':=by
 have HL:Hid (lQ l id=if dg l=true then(iK l id).1.number else 0):=rfl;generalize lQ l id=res at HL ⊢;have hm:=bD (Nat.le_trans hl d_:n≤ 1048576);cases hs:dg l with
 |false=>
  have HS:=h_ hs;rw[hs]at HL;clear hs;go_enter Tryz.func159,Tryz.ntmps159;go_wp2_with(go_at_call 42;((with_reducible refine(rU l _ _ _ _ hn hm hr).mono ?_);rw[HS.out];rintro e w2 ⟨rfl,hb⟩));go_returns;exact⟨dZ (by rw[HL.out];rfl),hb⟩
 |true=>
  have HS:=h_ hs;rw[hs]at HL;rcases hf:iK l id with⟨⟨sc,sn,se,sr,sb,sl,sz⟩,ok⟩;rw[hf]at HL;have HF:=h_ hf;have yG:=h_ hid;clear hs hf hid;go_enter Tryz.func159,Tryz.ntmps159;go_wp2_with(first|(go_at_call 42;((with_reducible refine(rU l _ _ _ _ hn hm hr).mono ?_);rw[HS.out];rintro e w2 ⟨rfl,hb⟩))|(go_at_call 158;((with_reducible refine(uL l _ _ _ _ _ hn hl (bF.below hr aH) HS.out yG.out).mono ?_);rw[HF.out];rintro e w3 ⟨rfl,hb3⟩)));go_returns;exact⟨dZ (by rw[HL.out];rfl),aH⟩
theorem rK(l:List aD)(a:Option Addr)(n c:Nat)(id:Int)(w:World)(hn:l.length= n)(hl:n≤ maxLen)(hr:bF aB w a l):
 Calls Tryz.prog 143 (Bp a n c id) w fun e w'=>e= .returned (.int .i64 (iL (fun s=>s.aA== id) l))∧Below w.heap.size w w':=by
 subst hn;have hl2:=cX hl;have HI:=h_ (fun k (hk:k< l.length)=>sf (p:=fun s:aD=> s.aA==id) hk);have HN:=h_ (rZ (p:=fun s:aD=> s.aA==id) (xs:=l));generalize iL (fun s:aD=> s.aA==id) l=res at HI HN ⊢;go_enter Tryz.func143,Tryz.ntmps143;go_wp2;go_loopw [5] (fun i wr=>∃k: Nat,k≤l.length∧ i= .int .i64 k∧Hid (∀j (h:j< l.length),j<k→ (l[j].aA==id)=false)∧Below w.heap.size w wr) (fun i _=>l.length- (intOf i).toNat)
 case atStart=>exact ⟨0,by omega,rfl,fun _ _ h=>by omega,Below.refl _ _⟩
 case round=>
  obtain⟨k,hk,rfl,sP,hb⟩:=hrel;by_cases hlt:k< l.length
  ·obtain⟨b,o,rfl,hcs⟩:=ql hr hlt;obtain⟨h0,_⟩:=hcs _ hb;clear hcs;have VW:=h_ (HI k hlt sP.out);have nA:Hid ((l[k].aA==id)=false→ ∀j (h:j< l.length),j<k+ 1→(l[j].aA==id)=false):=fun h j hj hjk=>by
    rcases Nat.lt_succ_iff_lt_or_eq.1 hjk with h1|rfl
    ·exact sP.out j hj h1
    ·exact h
   generalize l[k]=x at h0 VW nA;cases hp:x.aA== id with
   |true=>
    have HO:=h_ (VW hp);go_wp2;go_returns;exact⟨dZ HO.symm,hb⟩
   |false=>
    have HO:=h_ (nA hp);go_wp2;go_roundw
    case rel=>exact ⟨k+1,by omega,by go_num,HO.out,hb⟩
    case measure=>simp [intOf];omega
  ·obtain rfl:k= l.length:=o_;have HO:=h_ (HN fun j h=>sP.out j h h);go_wp2;go_returns;exact⟨dZ HO.symm,hb⟩
def rQ(B:Nat)(w:World)(xs:List aD)(e:Ending)(w':World):Prop:=
 ∃a' c',e= .returned (.slice a' xs.length c')∧w'.ownsRow B 92 (aB).size (.slice a' xs.length c') xs.length (xs.flatMap (aB).cells)∧Below B w w'
theorem Ed(xs:List aD)(x:aD)(n c:Nat)(a:Option Addr)(vb:Nat)(te:TypeId)(B:Nat)(w:World)(hn:xs.length= n)(di:Can w B 92 (aB).size a n c (xs.flatMap (aB).cells))(hv:w.heap[vb]? =some (.cells ((aB).cells x).toArray te (0,0)))(hby:(n+1)*(aB).bytes≤140737488355328)(hB:B≤ w.heap.size):
 Calls Tryz.prog 176 (vsis a n c n (some ⟨vb,0,none⟩) 1 1) w (rQ B w (xs++[x])):=by
 have hle:=di.le;have hmx:=di.2.1;have hsm:=cX hmx;have Rc:=(aB).oJ;have hcc:c≤ 9223372036854775807:=by
  rcases di.2.2 with⟨h,_⟩|h
  ·omega
  ·obtain⟨_,_,hv,_,h2,_⟩:=eN h;simp only[Value.slice.injEq]at hv;have:=cX h2;omega
 have YC:Row w (some ⟨vb,0,none⟩) ((aB).cells x):=by have:=Row.Ay hv;simpa using this
 have HC:=h_ di;have HV:=h_ YC;have XZ:=(aB).one x;have H1:=h_ XZ;have HL:=h_ ((aB).len x);clear di YC hv XZ;go_enter Tryz.func176,Tryz.ntmps176;go_wp2_with(at_builtin;refine dU ((aB).elem Tryz.underlying24) rfl (.tmp 23) (.tmp 24) rfl B a n c _ rfl HC.out (some ⟨vb,0,none⟩) 1 1 ((aB).cells x) rfl (by rw[HL.out,Nat.one_mul]) HV.out H1.out hby hB ?_;intro a' c' w' Yb _ hb' hown')
 all_goals
  go_returns;subst hn;refine⟨a',c',by rw[List.length_append];rfl,?_,hb'⟩;have:=hown'.1 o_;rw[List.length_append,List.flatMap_append,List.flatMap_cons,List.flatMap_nil,List.append_nil];exact this
theorem AG(w:World)(vb g o m vc lb cb:Nat)(tA tB:TypeId)(cA cB:Array Value)(hne:vb≠ g)(hA:w.heap[vb]? =some (.cells cA tA (0,0)))(hB:w.heap[g]? =some (.cells cB tB (0,0)))(hk:cB.size≠ 0):
 (callFunc 179 (vs2 (some ⟨vb,0,none⟩) m vc (some ⟨g,o,none⟩) lb cb)).run Tryz.prog w= .ok (.value (.bool false)) w:=by
 obtain⟨i,z,h2,_,h3,_⟩:=(aB).parts;have hsz:∀w,(sizeOf 92).run Tryz.prog w= .ok (aB).size w:=fun w=>by simp[sizeOf,typeInfo,h2,h3]
 rw[run_callFunc_extern Tryz.func179 k_ k_ k_ (e:=Extern.SlicesOverlaps.overlaps #[24,24] #[4]) k_,
  Lib.run_overlaps_apart w 24 4 92 Tryz.underlying24 (aB).size hsz ⟨vb,0,none⟩ ⟨g,o,none⟩ m vc lb cb hne tA tB cA.size cB.size
   (by simp[World.shape?,hA]) (by simp[World.shape?,hB]) hk (by simp[World.frozen?,hA]) (by simp[World.frozen?,hA])]
 rfl
theorem uX(xs:List aD)(x:aD)(i:Nat):(xs.take i++x:: xs.drop i).flatMap (aB).cells=(xs.take i).flatMap (aB).cells++((aB).cells x++(xs.drop i).flatMap (aB).cells):=by
 rw[List.flatMap_append,List.flatMap_cons]
theorem tq10 {P:Prop}(h:P:=by
 have hlt:=(List.getElem?_eq_some_iff.1 hj).1;simp only[World.cell?,hg,Nat.zero_add,Option.isSome_none,Bool.false_eq_true,if_false]
 rw[List.getElem?_toArray,List.getElem?_append_left hlt,hj]):P:=h
theorem tq11 {P:Prop}(h:P:=by
 simp only[World.cell?,hv,Nat.zero_add,Option.isSome_none,Bool.false_eq_true,if_false]
 rw[List.getElem?_toArray,hj]):P:=h
theorem BS(xs:List aD)(x:aD)(i n c g:Nat)(vb:Nat)(te:TypeId)(B:Nat)(w:World)(hn:xs.length= n)(hi:i< n)(hc:c< n+1)(hown:w.ownsRow B 92 (aB).size (.slice (some ⟨g,0,none⟩) n c) n (xs.flatMap (aB).cells))(hv:w.heap[vb]? =some (.cells ((aB).cells x).toArray te (0,0)))(hby:(n+1)*(aB).bytes≤140737488355328)(hB:B≤ w.heap.size):
 Calls Tryz.prog 176 (vsis (some ⟨g,0,none⟩) n c i (some ⟨vb,0,none⟩) 1 1) w (rQ B w (xs.take i++x:: xs.drop i)):=by
 obtain⟨hBg,hnc,hcm,UE,D,hg,Lx⟩:=sw hown;have Rc:=(aB).oJ;have hsp:=(aB).pos;have J0:n+ 1≤140737488355328:= Nat.le_trans (Nat.le_mul_of_pos_right _ Rc) hby;have DW:xs.flatMap (aB).cells=(xs.take i).flatMap (aB).cells++(xs.drop i).flatMap (aB).cells:=by rw[←List.flatMap_append,List.take_append_drop]
 have hal:((xs.take i).flatMap (aB).cells).length=i* (aB).size:=by rw[(aB).length,List.length_take];congr 1;omega
 have hbl:((xs.drop i).flatMap (aB).cells).length=(n-i)*(aB).size:=by rw[(aB).length,List.length_drop,hn]
 have hxl:=(aB).len x;have IH:=(aB).one x;have h1b:=(aB).rI (xs.drop i);have hrl:(xs.take i++x:: xs.drop i).length=n+ 1:=by simp;omega
 have hrc:=uX xs x i;generalize hR:(xs.take i++x:: xs.drop i)=res at hrl hrc ⊢;generalize pz:(xs.take i).flatMap (aB).cells=A at DW hal hrc;generalize Bn:(xs.drop i).flatMap (aB).cells=Bs at DW hbl h1b hrc;generalize LH:(aB).cells x=X at hv hxl IH hrc;rw[DW]at hg;have lv:∀j u,(A++Bs)[j]? =some u→w.cell? ⟨g,0+j,none⟩=some u:=fun j u hj=>by
  exact tq10
 have hgl:g< w.heap.size:=(Array.getElem?_eq_some_iff.1 hg).1;have hvl:vb< w.heap.size:=(Array.getElem?_eq_some_iff.1 hv).1;have OG:∀j u,X[j]? =some u→w.cell? ⟨vb,0+j,none⟩=some u:=fun j u hj=>by
  exact tq11
 obtain⟨w1,g1,c1,Z,hrun,hg1,hc1,Ob,IU,cC,hb1,hs1⟩:=o9 aB Tryz.underlying24 Tryz.underlying3 24 w g 0 i c (n+1- i) A hal (fun j u hj=>lv j u (by rw[List.getElem?_append_left (List.getElem?_eq_some_iff.1 hj).1];exact hj)) o_ o_ (by rw[show i+(n+1- i)=n+ 1 by omega];exact hby);have hkk:(n:Int)+1- (i:Int)=((n+1- i:Nat):Int):=o_;rw[←hkk,show i+(n+1- i)=n+ 1 by omega]at hrun;rw[show i+(n+1- i)=n+ 1 by omega]at hc1;have hZl:Z.length+ i*(aB).size=c1* (aB).size:=by rw[List.length_append,hal]at cC;omega
 have hZ1:(n+1)*(aB).size≤c1* (aB).size:=Nat.mul_le_mul_right _ hc1;have hni:(n+1)*(aB).size=i* (aB).size+(aB).size+(n-i)*(aB).size:=by rw[←Nat.succ_mul,←Nat.add_mul];congr 1;omega
 have hp1:A++ Z=A++ (Z.take (aB).size++Z.drop (aB).size):=by rw[List.take_append_drop]
 rw[hp1]at IU;have hp2:Z.drop (aB).size=(Z.drop (aB).size).take ((n-i)*(aB).size)++(Z.drop (aB).size).drop ((n-i)*(aB).size):=by rw[List.take_append_drop]
 have UH:(Z.take (aB).size).length=X.length:= by rw[List.length_take,hxl];omega
 have UI:((Z.drop (aB).size).take ((n-i)*(aB).size)).length=Bs.length:= by rw[List.length_take,List.length_drop,hbl];omega
 have UJ:((Z.drop (aB).size).drop ((n-i)*(aB).size)).length+(n+1)*(aB).size=c1* (aB).size:=by rw[List.length_drop,List.length_drop];omega
 rw[hp2]at IU;generalize Z.take (aB).size=M1 at IU UH;generalize(Z.drop (aB).size).take ((n-i)*(aB).size)=M2 at IU UI;generalize(Z.drop (aB).size).drop ((n-i)*(aB).size)=R2 at IU UJ;have X4:(A++X).length=(i+1)*(aB).size:=by rw[List.length_append,hal,hxl,Nat.succ_mul]
 have Yc:=cX Ob;have UQ:=cX hcm;have RUN:=h_ hrun;have HH1:=h_ IU;have QE:=h_ (fun j u hj=>((hb1.cell (p:=⟨vb,0+j,none⟩) hvl).trans (OG j u hj)));have Qq:=h_ (fun j u hj=>((hb1.cell (p:=⟨g,0+j,none⟩) hgl).trans (lv j u hj)));have hgg:g≠ g1:=o_;have TT:=h_ UH;have TU:=h_ UI;have TC:=h_ IH;have TB:=h_ h1b;have vN:=h_ hal;have Uj:=h_ hxl;have TH:=h_ hbl;have HAX:=h_ X4;have Ul:=h_ UJ;have Kv:=h_ hrc;have Bt:=h_ hrl;clear hp1 hp2 cC lv OG hrun hkk IU hg hv hown DW pz Bn LH hR UH UI IH h1b hal hxl hbl X4 hZl hZ1 hni UJ hrc hrl UE Lx;have hg1':=h_ hg1;clear hg1;have abY:¬c1= i:=o_;have Wn:¬c= i:=o_;have hin:¬(i:Int)=(n:Int):=o_;have abZ:¬c1= i+1:= o_;have hw1:IntKind.i64.wrap ((i:Int)+1)=(i:Int)+1:= IntWalk.i64_in _ ⟨by omega,by omega⟩;have hb0:(0:Int)≤(i:Int)+1:= o_;have htn:((i:Int)+1).toNat=i+ 1:=o_;have hb3:(i:Int)≤(n:Int):=o_;have hb4:i≤ n:=o_;go_enter Tryz.func176,Tryz.ntmps176;go_wp2_with(first|(at_builtin;refine Lib.wpList_append_run _ rfl (.tmp 34) (.tmp 39) _ _ rfl _ _ rfl rfl _ _ RUN.out ?_)|(refine ey aB Tryz.underlying24 rfl (.tmp 43) (.tmp 44) rfl g1 (i*(aB).size) A M1 (M2++R2) X 92 HH1.out vN.out TT.out TC.out (n+1- i) (c1-i) 1 1 1 ⟨vb,0,none⟩ (Nat.min_eq_left o_) (by rw[Uj.out,Nat.one_mul]) (fun j u hj=>by rw[Addr.add_mid];exact QE.out j u hj) rfl rfl ?_;intro w2 Yi hb2 py hs2;have Xb:=h_ Yi;have nO:=h_ hb2;have EJ:=h_ py;clear Yi hb2 py));go_still_tail 8,k_
 change wpList _ _ _ _ _ w2.drew
 have hd2:Below w.heap.size w2 w2.drew:=b_.drew;have Xc:Hid (w2.drew.heap[g1]? =some (.cells (A++(X++(M2++R2))).toArray 92 (0,0))):=Xb.out;have zk:Hid (∀j u,(A++Bs)[j]? =some u→w2.drew.cell? ⟨g,0+j,none⟩=some u):=fun j u hj=>by
  have:w2.drew.cell? ⟨g,0+j,none⟩=w1.cell? ⟨g,0+j,none⟩:=World.cell?_of_block (w:=w1) (EJ g hgg);rw[this];exact Qq.out j u hj
 generalize w2.drew=w3 at hd2 Xc zk ⊢;clear Xb EJ
 refine ey aB Tryz.underlying24 rfl (.tmp 50) (.tmp 53) rfl g1 ((i+1)*(aB).size) (A++X) M2 R2 Bs 92 (by rw[List.append_assoc];exact Xc.out) HAX.out TU.out TB.out (n-i) (c1-(i+1)) (n-i) (c-i) (n-i) ⟨g,i*(aB).size,none⟩ (Nat.min_self _) TH.out (fun j u hj=>by
  rw[Addr.add_mid];have:=zk.out (i*(aB).size+j) u (by rw[List.getElem?_append_right (by rw[vN.out];omega),vN.out,Nat.add_sub_cancel_left];exact hj)
  rw[Nat.zero_add]at this;exact this) (by simp[Act.eval];first|rfl| omega) rfl ?_
 intro w4 Oj hb4 Qm hs4;have TN:=h_ Oj;have og:=h_ hb4;clear Oj hb4 Qm;go_wp2;go_returns;have hfin:w4.heap[g1]? =some (.cells ((A++(X++Bs))++R2).toArray 92 (0,0)):=by rw[TN.out];congr 3;simp
 have hres:(A++(X++Bs)).length=(n+1)*(aB).size:=by rw[←Kv.out,(aB).length,Bt.out]
 refine⟨some ⟨g1,0,none⟩,c1,by rw[Bt.out];rfl,?_,?_⟩
 ·rw[Bt.out,Kv.out];exact mC (D:=R2) (by rw[hg1'.out];exact hB) hc1 Ob hres hfin (by rw[List.length_append,hres];have:=Ul.out;omega)
 ·have q1:Below B w w2:=(hb1.mono hB).trans (nO B (by rw[hg1'.out];exact hB));exact(q1.trans (hd2.mono hB)).trans (og B (by rw[hg1'.out];exact hB))
set_option maxRecDepth 100000 in
theorem Ah(xs:List aD)(x:aD)(i n c g:Nat)(vb:Nat)(te:TypeId)(B:Nat)(w:World)(hn:xs.length= n)(hi:i< n)(hc:n+ 1≤c)(hown:w.ownsRow B 92 (aB).size (.slice (some ⟨g,0,none⟩) n c) n (xs.flatMap (aB).cells))(hv:w.heap[vb]? =some (.cells ((aB).cells x).toArray te (0,0)))(hne:vb≠ g)(hby:(n+1)*(aB).bytes≤140737488355328):
 Calls Tryz.prog 176 (vsis (some ⟨g,0,none⟩) n c i (some ⟨vb,0,none⟩) 1 1) w (rQ B w (xs.take i++x:: xs.drop i)):=by
 obtain⟨hBg,hnc,hcm,UE,D,hg,Lx⟩:=sw hown;have Rc:=(aB).oJ;have hsp:=(aB).pos;have J0:n+ 1≤140737488355328:= Nat.le_trans (Nat.le_mul_of_pos_right _ Rc) hby;have DW:xs.flatMap (aB).cells=(xs.take i).flatMap (aB).cells++(xs.drop i).flatMap (aB).cells:=by rw[←List.flatMap_append,List.take_append_drop]
 have hal:((xs.take i).flatMap (aB).cells).length=i* (aB).size:=by rw[(aB).length,List.length_take];congr 1;omega
 have hbl:((xs.drop i).flatMap (aB).cells).length=(n-i)*(aB).size:=by rw[(aB).length,List.length_drop,hn]
 have hxl:=(aB).len x;have IH:=(aB).one x;have h1b:=(aB).rI (xs.drop i);have hrl:(xs.take i++x:: xs.drop i).length=n+ 1:=by simp;omega
 have hrc:=uX xs x i
 have hov:=fun (o lb cb:Nat)=>AG w vb g o 1 1 lb cb te 92 _ _ hne hv hg (by
  rw[List.size_toArray,Lx];have:=Nat.mul_pos (show 0<c by omega) hsp
  omega)
 generalize hR:(xs.take i++x:: xs.drop i)=res at hrl hrc ⊢;generalize pz:(xs.take i).flatMap (aB).cells=A at DW hal hrc;generalize Bn:(xs.drop i).flatMap (aB).cells=Bs at DW hbl h1b hrc;generalize LH:(aB).cells x=X at hv hxl IH hrc;rw[DW]at hg Lx;have hvl:vb< w.heap.size:=(Array.getElem?_eq_some_iff.1 hv).1;have OG:∀j u,X[j]? =some u→w.cell? ⟨vb,0+j,none⟩=some u:=fun j u hj=>by
  exact tq11
 have lv:∀j u,(A++Bs)[j]? =some u→w.cell? ⟨g,0+j,none⟩=some u:=fun j u hj=>by
  exact tq10
 have hcs:=Nat.mul_le_mul_right (aB).size hc;have hni:(n+1)*(aB).size=i* (aB).size+(aB).size+(n-i)*(aB).size:=by rw[←Nat.succ_mul,←Nat.add_mul];congr 1;omega
 have hi1:(i+1)*(aB).size=i* (aB).size+(aB).size:=Nat.succ_mul _ _;have hT:Bs++ D=(Bs++D).take (aB).size++(((Bs++D).drop (aB).size).take ((n-i)*(aB).size)++((Bs++D).drop (aB).size).drop ((n-i)*(aB).size)):=by rw[List.take_append_drop,List.take_append_drop]
 have hTl:(Bs++D).length+i* (aB).size=c* (aB).size:=by rw[List.length_append,List.length_append,hal]at Lx;rw[List.length_append];omega
 have Rb:((Bs++D).take (aB).size).length=X.length:= by rw[List.length_take,hxl];omega
 have UF:(((Bs++D).drop (aB).size).take ((n-i)*(aB).size)).length=Bs.length:= by rw[List.length_take,List.length_drop,hbl];omega
 have UG:(((Bs++D).drop (aB).size).drop ((n-i)*(aB).size)).length+(n+1)*(aB).size=c* (aB).size:=by rw[List.length_drop,List.length_drop];omega
 rw[List.append_assoc,hT]at hg;generalize(Bs++D).take (aB).size=M1 at hg Rb;generalize((Bs++D).drop (aB).size).take ((n-i)*(aB).size)=M2 at hg UF;generalize((Bs++D).drop (aB).size).drop ((n-i)*(aB).size)=R2 at hg UG;have X3:(A++M1).length=(i+1)*(aB).size:=by rw[List.length_append,hal,Rb,hxl,Nat.succ_mul]
 have UQ:=cX hcm;have HG:=h_ hg;have QE:=h_ OG;have Qq:=h_ lv;have TT:=h_ Rb;have TU:=h_ UF;have TC:=h_ IH;have TB:=h_ h1b;have vN:=h_ hal;have Uj:=h_ hxl;have TH:=h_ hbl;have HAM:=h_ X3;have HMC:=h_ UG;have Kv:=h_ hrc;have Bt:=h_ hrl;clear hT hTl lv OG hg hv hown DW pz Bn LH hR Rb UF IH h1b hal hxl hbl X3 hni hi1 hcs UG hrc hrl UE Lx;have Wn:¬c= i:=o_;have hin:¬(i:Int)=(n:Int):=o_;have hcj:¬c= i+1:= o_;have hw1:IntKind.i64.wrap ((i:Int)+1)=(i:Int)+1:= IntWalk.i64_in _ ⟨by omega,by omega⟩;have hb0:(0:Int)≤(i:Int)+1:= o_;have htn:((i:Int)+1).toNat=i+ 1:=o_;have hb3:(i:Int)≤(n:Int):=o_;have hb4:i≤ n:=o_;have cv:(i:Int)≤(n:Int)+1:= o_;have df:i≤ n+1:= o_;go_enter Tryz.func176,Tryz.ntmps176;go_wp2_with(simp only[hov]);go_still_tail 8,k_
 change wpList _ _ _ _ _ w.drew
 have hd2:Below g w w.drew:=b_.drew;have EH:Hid (w.drew.heap[g]? =some (.cells (A++(M1++(M2++R2))).toArray 92 (0,0))):=HG.out;have zk:Hid (∀j u,(A++Bs)[j]? =some u→w.drew.cell? ⟨g,0+j,none⟩=some u):=Qq.out;have Nh:Hid (∀j u,X[j]? =some u→w.drew.cell? ⟨vb,0+j,none⟩=some u):=QE.out;clear hov HG Qq QE;generalize w.drew=w3 at hd2 EH zk Nh ⊢
 refine ey aB Tryz.underlying24 rfl (.tmp 73) (.tmp 76) rfl g ((i+1)*(aB).size) (A++M1) M2 R2 Bs 92 (by rw[List.append_assoc];exact EH.out) HAM.out TU.out TB.out (n-i) (c-(i+1)) (n+1- i) (c-i) (n-i) ⟨g,i*(aB).size,none⟩ (Nat.min_eq_right o_) TH.out (fun j u hj=>by
  rw[Addr.add_mid];have:=zk.out (i*(aB).size+j) u (by rw[List.getElem?_append_right (by rw[vN.out];omega),vN.out,Nat.add_sub_cancel_left];exact hj)
  rw[Nat.zero_add]at this;exact this) (by simp[Act.eval];first|rfl| omega) (by simp[Act.eval];first|rfl| omega) ?_
 intro w4 Oj hb4 Qm hs4;have TN:Hid (w4.heap[g]? =some (.cells (A++(M1++(Bs++R2))).toArray 92 (0,0))):=by show _=_;rw[Oj,List.append_assoc]
 have og:=h_ hb4;have Uh:Hid (∀j u,X[j]? =some u→w4.cell? ⟨vb,0+j,none⟩=some u):=fun j u hj=>by
  have:w4.cell? ⟨vb,0+j,none⟩=w3.cell? ⟨vb,0+j,none⟩:=World.cell?_of_block (w:=w3) (Qm vb hne);rw[this];exact Nh.out j u hj
 clear Oj hb4 Qm;go_wp2_with(refine ey aB Tryz.underlying24 rfl (.tmp 80) (.tmp 81) rfl g (i*(aB).size) A M1 (Bs++R2) X 92 TN.out vN.out TT.out TC.out (n+1- i) (c-i) 1 1 1 ⟨vb,0,none⟩ (Nat.min_eq_left o_) (by rw[Uj.out,Nat.one_mul]) (fun j u hj=>by rw[Addr.add_mid];exact Uh.out j u hj) rfl rfl ?_;intro w5 Yj cv Z1 hs5;have HH5:=h_ Yj;have kO:=h_ cv;clear Yj cv Z1);go_returns;have hfin:w5.heap[g]? =some (.cells ((A++(X++Bs))++R2).toArray 92 (0,0)):=by rw[HH5.out];congr 3;simp
 have hres:(A++(X++Bs)).length=(n+1)*(aB).size:=by rw[←Kv.out,(aB).length,Bt.out]
 refine⟨some ⟨g,0,none⟩,c,by rw[Bt.out];rfl,?_,?_⟩
 ·rw[Bt.out,Kv.out];exact mC (D:=R2) hBg hc hcm hres hfin (by rw[List.length_append,hres];have:=HMC.out;omega)
 ·exact((hd2.mono hBg).trans (og B hBg)).trans (kO B hBg)
def zy(B:Nat)(w:World)(m:Nat)(xs:List aD)(e:Ending)(w':World):Prop:=
 ∃a' c',e= .returned (.slice a' m c')∧w'.ownsRow B 92 (aB).size (.slice a' m c') m (xs.flatMap (aB).cells)∧Below B w w'
theorem LL(xs:List aD)(x:aD)(i n c:Nat)(a:Option Addr)(vb:Nat)(te:TypeId)(B:Nat)(w:World)(hn:xs.length= n)(hi:i≤ n)(di:Can w B 92 (aB).size a n c (xs.flatMap (aB).cells))(hown:0< n→w.ownsRow B 92 (aB).size (.slice a n c) n (xs.flatMap (aB).cells))(hv:w.heap[vb]? =some (.cells ((aB).cells x).toArray te (0,0)))(hne:∀b o s,a=some ⟨b,o,s⟩→vb≠ b)(hby:(n+1)*(aB).bytes≤140737488355328)(hB:B≤ w.heap.size):
 Calls Tryz.prog 176 (vsis a n c i (some ⟨vb,0,none⟩) 1 1) w (zy B w (n+1) (xs.take i++x:: xs.drop i)):=by
 have hlen:(xs.take i++x:: xs.drop i).length=n+ 1:=by simp;omega
 have fin:∀e w',rQ B w (xs.take i++x:: xs.drop i) e w'→zy B w (n+1) (xs.take i++x:: xs.drop i) e w':=fun e w' ⟨a',c',h1,h2,h3⟩=>by
  rw[hlen]at h1 h2;exact⟨a',c',h1,h2,h3⟩
 refine Calls.mono ?_ fin;by_cases h:i= n
 ·subst h;have:=Ed xs x i c a vb te B w hn di hv hby hB;rw[List.take_of_length_le o_,List.drop_of_length_le o_];exact this
 ·have ho:=hown o_;obtain⟨g,rfl,hBg,hcm⟩:=iM ho (by intro h0;have:=congrArg List.length h0;rw[(aB).length,List.length_nil,Nat.mul_eq_zero]at this;have:=(aB).pos;omega);by_cases hc:c< n+1
  ·exact BS xs x i n c g vb te B w hn o_ hc ho hv hby hB
  ·exact Ah xs x i n c g vb te B w hn o_ o_ ho hv (hne g 0 none rfl) hby
set_option maxRecDepth 100000 in
theorem DG(xs:List aD)(y:aD)(a:Option Addr)(n c:Nat)(cM:FuncId)(cap:Array Value)(cmp:aD→ Int)(k0:Nat)(w:World)(hn:xs.length= n)(hl:n≤ 1000000)(hr:bF aB w a xs)(qp:∀(args:Array Value) (w:World),(callFunc cM args).run Tryz.prog w= .ok (.enter cM args) w)(hf:∀x∈ xs,∀w',Below w.heap.size w w'→Calls Tryz.prog cM (#[x.agg,y.agg]++cap) w' fun e w''=>e= .returned (.int .i64 (cmp x))∧Below w'.heap.size w' w'')(FN:k0≤ n)(hlo:∀j (h:j< xs.length),j<k0→ cmp xs[j]<0)(hhi:∀j (h:j< xs.length),k0≤j→ 0≤cmp xs[j]):
 Calls Tryz.prog 175 #[.slice a n c,y.agg,.func (.func cM) #[] cap] w fun e w'=>e= .returned (.tuple (WS k0 (qs cmp xs[k0]?)))∧Below w.heap.size w w':=by
 subst hn;have HF:=h_ hf;have Qx:=h_ hlo;have Qv:=h_ hhi;have HE:Hid (∀x,xs[k0]? =some x→(qs cmp xs[k0]?)=(cmp x==0)):=fun x hx=>by rw[hx];rfl
 have HN:Hid (xs[k0]? =none→ (qs cmp xs[k0]?)=false):=fun hx=>by rw[hx];rfl
 generalize qs cmp xs[k0]? =res at HE HN ⊢;clear hf hlo hhi;have HY:∀w',Below (w.alloc (.cells (aD.cells y).toArray 92)).heap.size (w.alloc (.cells (aD.cells y).toArray 92)) w'→w'.rangeAt w.heap.size 0 (aD.cells y):=fun w' hb j v hv=>by
  rw[Nat.zero_add,aW hb j,List.getElem?_toArray,hv]
 have QG:=h_ HY;clear HY;go_enter Tryz.func175,Tryz.ntmps175;go_wp2;go_loopw [9,10] (fun si sj wr=>∃i j:Nat,si= .int .i64 i∧sj= .int .i64 j∧i≤ k0∧k0≤ j∧j≤ xs.length∧Hid (Below (w.alloc (.cells (aD.cells y).toArray 92)).heap.size (w.alloc (.cells (aD.cells y).toArray 92)) wr)) (fun si sj _=>(intOf sj).toNat-(intOf si).toNat)
 case atStart=>exact ⟨0,xs.length,rfl,rfl,by omega,FN,by omega,Below.refl _ _⟩
 case round=>
  obtain⟨i,j,rfl,rfl,hik,hkj,hjn,hb⟩:=hrel;by_cases hlt:i< j
  ·obtain⟨m,hm⟩:∃m: Nat,((i:Int)+(j:Int))/2= (m:Int):=⟨(i+j)/2,by omega⟩;have him:i≤ m:=o_;have hmj:m< j:=o_;have hmx:m< xs.length:=o_;have HM:=h_ hm;clear hm;obtain⟨b,o,rfl,hrg⟩:=ql hr hmx;have kU:Below w.heap.size w wr:=((Below.refl w.heap.size w).alloc n_ _).trans (hb.mono (by simp));have hx0:=hrg wr kU;have hy0:=kA (QG wr hb.out);simp only[Nat.zero_add]at hy0;have HX:=h_ hx0;have Uk:=h_ hy0;have qC:=h_ (fun w' hb=>HF.out xs[m] (List.getElem_mem hmx) w' hb);have MX:=h_ (fun h:m< k0=>Qx.out m hmx h);have MT:=h_ (fun h:k0≤ m=>Qv.out m hmx h);generalize Va:xs[m]=x at HX qC MX MT;clear hrg hx0 hy0 Va;go_wp2;rw[HM.out];have hx:=HX.out;have hy:=Uk.out;go_still_tail 6,k_
   change wpList _ _ _ _ _ wr.drew
   clear hx hy;go_wp2_with(refine(qC _ kU.drew).mono ?_;rintro e w4 ⟨rfl,hb4⟩)
   ·have hmk:m< k0:=by
     rcases Nat.lt_or_ge m k0 with h|h
     ·exact h
     ·have:=MT.out h;omega
    exact⟨⟨m+1,j,by go_num,rfl,by omega,hkj,hjn,hb.out.drew.trans (hb4.mono hb.out.size)⟩,by simp[intOf];omega⟩
   ·have hmk:k0≤ m:=by
     rcases Nat.lt_or_ge m k0 with h|h
     ·have:=MX.out h;omega
     ·exact h
    exact⟨⟨i,m,rfl,rfl,hik,hmk,by omega,hb.out.drew.trans (hb4.mono hb.out.size)⟩,by simp[intOf];omega⟩
  ·obtain rfl:i= k0:=o_;have kU:Below w.heap.size w wr:=((Below.refl w.heap.size w).alloc n_ _).trans (hb.out.mono (by simp));by_cases hkn:i< xs.length
   ·obtain⟨b,o,rfl,hrg⟩:=ql hr hkn;have hx0:=hrg wr kU;have hy0:=kA (QG wr hb.out);simp only[Nat.zero_add]at hy0;have HX:=h_ hx0;have Uk:=h_ hy0;have qC:=h_ (fun w' hb=>HF.out xs[i] (List.getElem_mem hkn) w' hb);have Bq:=h_ (HE xs[i] (List.getElem?_eq_getElem hkn));have gB:=h_ hrg;generalize Va:xs[i]=x at HX qC Bq gB;clear hrg hx0 hy0 Va HE HN;have MB:decide ((i:Int)<(xs.length:Int))=true:= decide_eq_true o_;go_wp2;go_region_held3 (fun w'=>(w'.cell? ⟨b,o+i* 7,none⟩=some (.int .i64 x.aA)∧w'.cell? ⟨b,o+i* 7+1,none⟩=some (.int .i64 x.number)∧w'.cell? ⟨b,o+i* 7+2,none⟩=some (.int .i64 x.answer.e)∧w'.cell? ⟨b,o+i* 7+3,none⟩=some (.int .i64 x.answer.aK)∧w'.cell? ⟨b,o+i* 7+4,none⟩=some (.int .i64 x.answer.aq)∧w'.cell? ⟨b,o+i* 7+5,none⟩=some (.int .i64 x.answer.bW)∧w'.cell? ⟨b,o+i* 7+6,none⟩=some (.int .i64 x.answer.size))∧(w'.cell? ⟨w.heap.size,0,none⟩=some (.int .i64 y.aA)∧w'.cell? ⟨w.heap.size,1,none⟩=some (.int .i64 y.number)∧w'.cell? ⟨w.heap.size,2,none⟩=some (.int .i64 y.answer.e)∧w'.cell? ⟨w.heap.size,3,none⟩=some (.int .i64 y.answer.aK)∧w'.cell? ⟨w.heap.size,4,none⟩=some (.int .i64 y.answer.aq)∧w'.cell? ⟨w.heap.size,5,none⟩=some (.int .i64 y.answer.bW)∧w'.cell? ⟨w.heap.size,6,none⟩=some (.int .i64 y.answer.size))) ((first|exact ⟨HX.out,Uk.out⟩|exact ⟨gm.out,KB.out⟩)) (first|(refine(qC _ (by first|exact kU|exact kU.drew)).mono ?_;rintro e w4 ⟨rfl,hb4⟩;have gm:=h_ (gB w4 (kU.drew.trans (hb4.mono kU.size)));have OI:=kA (QG w4 (hb.out.drew.trans (hb4.mono hb.out.size)));simp only[Nat.zero_add]at OI;have KB:=h_ OI;clear OI));go_wp2;go_returns;exact⟨by rw[Bq.out];rfl,kU.drew.trans (hb4.mono kU.size)⟩
   ·have pn:=h_ (HN (List.getElem?_eq_none o_));have MB:decide ((i:Int)<(xs.length:Int))=false:= decide_eq_false o_;go_wp2;go_quiet (fail);go_wp2;go_returns;exact⟨by rw[pn.out];rfl,below_drewN kU _⟩
theorem LM(x y:aD)(w:World)(h1:0≤ x.aA)(h2:x.aA≤ 1000000)(h3:0≤ y.aA)(h4:y.aA≤ 1000000):
 Calls Tryz.prog 161 #[x.agg,y.agg] w fun e w'=>e= .returned (.int .i64 (x.aA-y.aA))∧Below w.heap.size w w':=by
 obtain⟨xc,xn,xa⟩:=x;obtain⟨yc,yn,ya⟩:=y;simp only at h1 h2 h3 h4;go_enter Tryz.func161,Tryz.ntmps161;go_wp2;go_returns;exact⟨rfl,aH⟩
theorem Fm(args:Array Value)(w:World):(callFunc 161 args).run Tryz.prog w= .ok (.enter 161 args) w:=k_
def abp(w:World)(l:List aD)(e:Ending)(w':World):Prop:=
 ∃a c,e= .returned (.slice a l.length c)∧l.length≤ c∧c≤ maxLen∧(a=none→ c=0)∧bF aB w' a l∧Below w.heap.size w w'
theorem AH{w:World}{B:Nat}{a:Option Addr}{n c:Nat}{xs:List aD}(h:w.ownsRow B 92 aB.size (.slice a n c) n (xs.flatMap aB.cells)):n≤ c∧c≤ maxLen∧(a=none→ c=0)∧bF aB w a xs:=by
 obtain⟨a',c',hv,h1,h2,h3⟩:=eN h;simp only[Value.slice.injEq]at hv;obtain⟨rfl,_,rfl⟩:=hv;exact⟨h1,h2,h3,jO h⟩
theorem RI(l:List aD)(x:aD)(a:Option Addr)(n c:Nat)(w:World)(hn:l.length= n)(hl:n≤ 10000)(hc:a= none→c= 0)(hnc:n≤ c)(hr:bF aB w a l)(hs:dg l=true)(hx1:1≤ x.aA)(hx2:x.aA≤ 16):
 Calls Tryz.prog 160 #[.slice a n c,x.agg,.func (.func 161) #[] #[]] w (abp w (iw aD.aA x l)):=by
 subst hn;have hwf:=wW hs;have hpw:=(ck.1 hs).2;have hle:=Ak (key:=aD.aA) x.aA l;have qE:=h_ (fun(y:aD) (hy:y∈ l) w'=>LM y x w' (by have:=hwf y hy;omega) (by have:=hwf y hy;omega) o_ o_);have Qx:=h_ (fun j (h:j< l.length) (hj:j< gw aD.aA x.aA l)=>show l[j].aA-x.aA< 0 by have:=uU x.aA j h hj;omega);have Qv:=h_ (fun j (h:j< l.length) (hj:gw aD.aA x.aA l≤j)=>show 0≤l[j].aA-x.aA by have:=uT x.aA hpw j h hj;omega);have Nc:=h_ (fun y (h1:l[gw aD.aA x.aA l]? =some y) (h2:y.aA= x.aA)=>wM h1 h2);have M0:=h_ (fun(h:∀y,l[gw aD.aA x.aA l]? =some y→y.aA≠ x.aA)=>wL h);have HLEN:Hid ((iw aD.aA x l).length=(iw aD.aA x l).length):=rfl;generalize gw aD.aA x.aA l=k0 at hle Qx Qv Nc M0;generalize iw aD.aA x l=res at Nc M0 ⊢;clear hs hwf hpw HLEN;have qp:=Fm;have ZB:=h_ (fun w' (hb:Below w.heap.size w w')=>DG l x a l.length c 161 #[] (fun s=>s.aA- x.aA) k0 w' rfl o_ (bF.below hr hb) qp (fun y hy w'' _=>qE.out y hy w'') hle Qx.out Qv.out);have cT:=h_ (fun w' (hb:Below (World.alloc w (.cells (aD.cells x).toArray 92)).heap.size (World.alloc w (.cells (aD.cells x).toArray 92)) w')=>jY hb);have hnew:∀w3: World,(w3.alloc (.cells (xd x.aA x.number x.answer.e x.answer.aK x.answer.aq x.answer.bW x.answer.size) 92)).heap[w3.heap.size]? =some (.cells (aB.cells x).toArray 92 (0,0)):=fun w3=>heap_alloc_new w3 _
 have EW:=h_ hnew;clear hnew;have hby:l.length* aB.bytes≤140737488355328:= by show l.length*56≤ _;omega
 have Oa:(l.length+1)*aB.bytes≤ 140737488355328:=by show(l.length+1)*56≤ _;omega
 by_cases hhit:∃y,l[k0]? =some y∧y.aA= x.aA
 ·obtain⟨y,hy1,hy2⟩:=hhit;obtain⟨FN,_⟩:=List.getElem?_eq_some_iff.1 hy1;have HR:=h_ (Nc y hy1 hy2);have QC:Hid (qs (fun s:aD=> s.aA-x.aA) l[k0]? =true):=by show _=_;rw[hy1];simp[qs,hy2]
  have hne:0< l.length:=o_;have Bt:Hid (res.length=l.length):=by show _=_;rw[HR.out,List.length_set]
  clear hy1 hy2;go_enter Tryz.func160,Tryz.ntmps160;go_wp2_with(first|(go_at_call 175;((with_reducible refine(ZB.out _ aH).mono ?_);rw[QC.out];rintro e w2 ⟨rfl,hb2⟩))|(go_at_call 100;((with_reducible refine(zI l a _ _ _ rfl hby (bD o_) hc hnc (bF.below hr aH)).mono ?_);rintro e w3 ⟨a3,c3,rfl,D4,fc,kV,IV,hb3⟩;have jx:=h_ (cT w3 aH);have Tu:=Below.boxed (show Below (World.alloc w (.cells (aD.cells x).toArray 92)).heap.size (World.alloc w (.cells (aD.cells x).toArray 92)) w3 from aH);obtain⟨g,rfl,hg3,ab0⟩:=iM (kV hne) (by intro h;have:=congrArg List.length h;rw[aB.length,List.length_nil,Nat.mul_eq_zero]at this;have:=aB.pos;omega);have IX:=h_ (dM.pV (L:=aB) (kV hne));have LC:=fc.le;clear fc kV))|(refine aa aB rfl (.tmp 4) rfl w.heap.size 0 rfl x x.agg rfl jx.out ?_)|(refine nN aB rfl (.tmp 23) (.tmp 22) rfl (o:=0) IX.out k0 FN x (by rw[Nat.zero_add];rfl) rfl ?_;intro w4 ER hb4 hs4;have MZ:=h_ ER;have cv:=hb4 w2.heap.size hg3;clear ER hb4));go_returns;refine⟨some ⟨g,0,none⟩,c3,by rw[Bt.out];rfl,by rw[Bt.out];exact LC,ab0,(fun h=>by cases h),by rw[HR.out];exact MZ.row,?_⟩;have q2:Below w.heap.size w w2:=aH;exact q2.trans ((hb3.trans cv).mono q2.size)
 ·have HR:=h_ (M0 (fun y h1 h2=>hhit ⟨y,h1,h2⟩));have QC:Hid (qs (fun s:aD=> s.aA-x.aA) l[k0]? =false):=by
   show _=_
   cases hh:l[k0]? with
   |none=> rfl
   |some y=>unfold qs;rw[beq_eq_false_iff_ne];intro h;exact hhit ⟨y,hh,by simp only at h;omega⟩
  clear hhit;go_enter Tryz.func160,Tryz.ntmps160;go_wp2_with(first|(go_at_call 175;((with_reducible refine(ZB.out _ aH).mono ?_);rw[QC.out];rintro e w2 ⟨rfl,hb2⟩))|(go_at_call 100;((with_reducible refine(zI l a _ _ _ rfl hby (bD o_) hc hnc (bF.below hr aH)).mono ?_);rintro e w3 ⟨a3,c3,rfl,D4,fc,kV,IV,hb3⟩;have jx:=h_ (cT w3 aH);have Tu:=Below.boxed (show Below (World.alloc w (.cells (aD.cells x).toArray 92)).heap.size (World.alloc w (.cells (aD.cells x).toArray 92)) w3 from aH);have U7:=hb3.size))|(refine aa aB rfl (.tmp 4) rfl w.heap.size 0 rfl x x.agg rfl jx.out ?_)|(go_at_call 176;((with_reducible refine(LL l x k0 l.length c3 a3 w3.heap.size 92 w2.heap.size _ rfl hle (fc.alloc _) (fun h=>(kV h).alloc _) (EW.out w3) (fun b o s hab=>Nat.ne_of_gt (IV b o s hab)) Oa (Nat.le_trans U7 (by simp))).mono ?_);rintro e w4 ⟨a4,c4,rfl,eG,hb4⟩)));go_returns;obtain⟨h1,h2,h3,h4⟩:=AH eG;have hfin:res= l.take k0++x:: l.drop k0:=HR.out;have hlen:res.length= l.length+1:= by rw[hfin];simp;omega
  refine⟨a4,c4,by rw[hlen];rfl,by rw[hlen];exact h1,h2,h3,by rw[hfin];exact h4,?_⟩;have q2:Below w.heap.size w w2:=aH;exact q2.trans ((((hb3.alloc U7 _)).trans hb4).mono q2.size)
theorem zO(l:List aD)(id:Int):(iL (fun s=>s.aA== id) l= -1∧ iK l id=(tq,false))∨∃k,∃hk: k<l.length,iL (fun s=>s.aA== id) l=k∧ iK l id=(l[k],true):=by
 unfold iK fN;rcases wK (fun s:aD=> s.aA==id) l with⟨h1,h2⟩|⟨k,hk,h1,h2⟩
 ·exact .inl ⟨h1,by rw[h2]⟩
 ·exact .inr ⟨k,hk,h1,by rw[h2]⟩
theorem YX {P:Prop}(h:P:=by
 go_enter Tryz.func142,Tryz.ntmps142;go_wp2_with(first|(go_at_call 143;((with_reducible refine(rK l _ _ _ _ _ rfl hm hr).mono ?_);rw[H1.out];rintro e w2 ⟨rfl,hb⟩))|(go_at_call 27;((with_reducible refine(mD l _ _ _ _ rfl hm (bF.below hr aH)).mono ?_);rw[HS.out];rintro e w3 ⟨rfl,hb3⟩)));go_returns
 exact⟨dZ (by rw[HL.out];rfl),aH⟩):P:=h
theorem lU(l:List aD)(a:Option Addr)(n c:Nat)(id:Int)(w:World)(hn:l.length= n)(hl:n≤ 1000000)(hr:bF aB w a l):
 Calls Tryz.prog 142 (Bp a n c id) w fun e w'=>e= .returned (.int .i64 (lQ l id))∧Below w.heap.size w w':=by
 subst hn;have HL:Hid (lQ l id=if dg l=true then(iK l id).1.number else 0):=rfl;generalize lQ l id=res at HL ⊢;have hm:=bD (Nat.le_trans hl d_:l.length≤ 1048576);rcases zO l id with⟨h1,h2⟩|⟨k,hk,h1,h2⟩
 ·have H1:=h_ h1;rw[h2]at HL;cases hs:dg l<;>
  ·have HS:=h_ hs;rw[hs]at HL;clear hs h1 h2;exact YX
 ·have H1:=h_ h1;rw[h2]at HL;obtain⟨b,o,rfl,hcs⟩:=ql hr hk;have ez:=h_ hcs;generalize l[k]=x at HL ez;have hk1:((k:Int)<0)=False:= by simp
  have EO:decide ((k:Int)<0)=false:= decide_eq_false o_;clear h1 h2 hcs;cases hs:dg l
  ·have HS:=h_ hs;rw[hs]at HL;clear hs;exact YX
  ·have HS:=h_ hs;rw[hs]at HL;clear hs;go_enter Tryz.func142,Tryz.ntmps142;go_wp2_with(first|(go_at_call 143;((with_reducible refine(rK l _ _ _ _ _ rfl hm hr).mono ?_);rw[H1.out];rintro e w2 ⟨rfl,hb⟩))|(go_at_call 27;((with_reducible refine(mD l _ _ _ _ rfl hm (bF.below hr aH)).mono ?_);rw[HS.out];rintro e w3 ⟨rfl,hb3⟩;have hx:=ez.out w3 aH;obtain⟨_,hx1,_⟩:=hx)));go_returns;exact⟨dZ (by rw[HL.out];rfl),aH⟩
def Ns(w:World)(r:bS× Bool×Int)(e:Ending)(w':World):Prop:= e= .returned (.tuple #[r.1.agg,.bool r.2.1,.int .i64 r.2.2])∧Below w.heap.size w w'
theorem uV{l:List aD}{c n:Int}(h:oY l c n=true):dg l=true∧ 1≤c∧ c≤16∧ 1≤n:= by
 unfold oY at h;simp only[Bool.and_eq_true,decide_eq_true_eq]at h;exact⟨h.1,h.2.1,h.2.2.1,h.2.2.2⟩
theorem VA {P:Prop}(h:P:=by
 have q:Below w.heap.size w (World.alloc w3 (.cells (xd sc sn se sr sb sl sz) 92)):=aH
 exact⟨by rw[HA.out],q.trans df⟩):P:=h
theorem JO(l:List aD)(a:Option Addr)(n c:Nat)(id num:Int)(w:World)(hn:l.length= n)(hl:n≤ 1000000)(hr:bF aB w a l):
 Calls Tryz.prog 113 (uk a n c id num) w (Ns w (mr l id num)):=by
 have HA:Hid (mr l id num=if oY l id num=false then(bS.err 0,false,2)else if num<(iK l id).1.number then(bS.err 0,false,150)else if num=(iK l id).1.number then((iK l id).1.answer,false,0)else(bS.err 0,true,0)):=rfl;generalize mr l id num=res at HA ⊢;have hm:=bD (Nat.le_trans hl d_:n≤ 1048576);have Hl:=h_ (fun w' (q:Below (World.alloc w (.cells dB 40)).heap.size (World.alloc w (.cells dB 40)) w')=>And.intro (oI q) (And.intro (jY (cs:=(bS.err 0).cells) q) (Below.boxed q)));cases hs:oY l id num with
 |false=>
  have HS:=h_ hs;rw[hs,if_pos rfl]at HA;clear hs;go_enter Tryz.func113,Tryz.ntmps113;go_wp2_with(first|(go_at_call 157;((with_reducible refine(pU l _ _ _ _ _ _ hn hm (bF.below hr aH)).mono ?_);rw[HS.out];rintro e w2 ⟨rfl,hb⟩;obtain⟨ht2,hg2,hz2⟩:=Hl.out w2 aH;have HT:=h_ ht2;have HG:=h_ hg2;clear ht2 hg2))|(refine aa bA rfl (.tmp 6) rfl w.heap.size 0 rfl (bS.err 0) (bS.err 0).agg rfl HG.out ?_)|(refine cO bA rfl (.tmp 6) (.tmp 16) rfl w.heap.size 0 (bS.err 0) rfl rfl HT.out ?_;intro w5 sL _ cv _;have Dx:=h_ sL;have df:=cv w.heap.size n_;clear sL cv));obtain⟨c0,c1,c2,c3,c4⟩:=lL Dx.out;simp only[Nat.zero_add]at c1 c2 c3 c4;refine bodyPost_ret (v:= .tuple #[(bS.err 0).agg,.bool false,.int .i64 2]) (by simp[results,Tryz.results113,go_sem,c0,c1,c2,c3,c4]) rfl ?_;have q:Below w.heap.size w w2:=aH;exact⟨by rw[HA.out],q.trans df⟩
 |true=>
  have HS:=h_ hs;obtain⟨hs1,hi1,hi2,J0⟩:=uV hs;have qE:=h_ hs1;have yG:=h_ (iN (n:=id) o_ o_);rw[hs,if_neg (by simp)]at HA;rcases hf:iK l id with⟨⟨sc,sn,se,sr,sb,sl,sz⟩,ok⟩;rw[hf]at HA;simp only at HA;have HF:=h_ hf;clear hs hs1 hf hi1 hi2 J0;by_cases h1:num< sn
  ·rw[if_pos h1]at HA;go_enter Tryz.func113,Tryz.ntmps113;go_wp2_with(first|(go_at_call 157;((with_reducible refine(pU l _ _ _ _ _ _ hn hm (bF.below hr aH)).mono ?_);rw[HS.out];rintro e w2 ⟨rfl,hb⟩))|(go_at_call 158;((with_reducible refine(uL l _ _ _ _ _ hn hl (bF.below hr aH) qE.out yG.out).mono ?_);rw[HF.out];rintro e w3 ⟨rfl,hb3⟩;obtain⟨Ti,hg3,hz3⟩:=Hl.out w3 aH;have HT:=h_ (World.there_alloc Ti (.cells (xd sc sn se sr sb sl sz) 92));have HG:=h_ (World.rangeAt_alloc hg3 (.cells (xd sc sn se sr sb sl sz) 92));clear Ti hg3))|(refine aa bA rfl (.tmp 6) rfl w.heap.size 0 rfl (bS.err 0) (bS.err 0).agg rfl HG.out ?_)|(refine cO bA rfl (.tmp 6) (.tmp 28) rfl w.heap.size 0 (bS.err 0) rfl rfl HT.out ?_;intro w5 sL _ cv _;have Dx:=h_ sL;have df:=cv w.heap.size n_;clear sL cv));obtain⟨c0,c1,c2,c3,c4⟩:=lL Dx.out;simp only[Nat.zero_add]at c1 c2 c3 c4;refine bodyPost_ret (v:= .tuple #[(bS.err 0).agg,.bool false,.int .i64 150]) (by simp[results,Tryz.results113,go_sem,c0,c1,c2,c3,c4]) rfl ?_;exact VA
  rw[if_neg h1]at HA;by_cases h2:num= sn
  ·rw[if_pos h2]at HA;have h3:=h2.symm;clear h2;subst h3;clear h1;go_enter Tryz.func113,Tryz.ntmps113;go_wp2_with(first|(go_at_call 157;((with_reducible refine(pU l _ _ _ _ _ _ hn hm (bF.below hr aH)).mono ?_);rw[HS.out];rintro e w2 ⟨rfl,hb⟩))|(go_at_call 158;((with_reducible refine(uL l _ _ _ _ _ hn hl (bF.below hr aH) qE.out yG.out).mono ?_);rw[HF.out];rintro e w3 ⟨rfl,hb3⟩;obtain⟨Ti,hg3,hz3⟩:=Hl.out w3 aH;have HT:=h_ (World.there_alloc Ti (.cells (xd sc sn se sr sb sl sz) 92));have HG:=h_ (World.rangeAt_alloc hg3 (.cells (xd sc sn se sr sb sl sz) 92));clear Ti hg3))|(refine cO bA rfl (.tmp 6) (.tmp 35) rfl w.heap.size 0 ⟨se,sr,sb,sl,sz⟩ rfl rfl HT.out ?_;intro w5 sL _ cv _;have Dx:=h_ sL;have df:=cv w.heap.size n_;clear sL cv));obtain⟨c0,c1,c2,c3,c4⟩:=lL Dx.out;simp only[Nat.zero_add]at c1 c2 c3 c4;refine bodyPost_ret (v:= .tuple #[bS.agg ⟨se,sr,sb,sl,sz⟩,.bool false,.int .i64 0]) (by simp[results,Tryz.results113,go_sem,c0,c1,c2,c3,c4]) rfl ?_;exact VA
  ·rw[if_neg h2]at HA;have g2:(num==sn)=false:= beq_eq_false_iff_ne.2 h2;clear h2;go_enter Tryz.func113,Tryz.ntmps113;go_wp2_with(first|(go_at_call 157;((with_reducible refine(pU l _ _ _ _ _ _ hn hm (bF.below hr aH)).mono ?_);rw[HS.out];rintro e w2 ⟨rfl,hb⟩))|(go_at_call 158;((with_reducible refine(uL l _ _ _ _ _ hn hl (bF.below hr aH) qE.out yG.out).mono ?_);rw[HF.out];rintro e w3 ⟨rfl,hb3⟩;obtain⟨Ti,hg3,hz3⟩:=Hl.out w3 aH;have HT:=h_ (World.there_alloc Ti (.cells (xd sc sn se sr sb sl sz) 92));have HG:=h_ (World.rangeAt_alloc hg3 (.cells (xd sc sn se sr sb sl sz) 92));clear Ti hg3))|(refine aa bA rfl (.tmp 6) rfl w.heap.size 0 rfl (bS.err 0) (bS.err 0).agg rfl HG.out ?_)|(refine cO bA rfl (.tmp 6) (.tmp 36) rfl w.heap.size 0 (bS.err 0) rfl rfl HT.out ?_;intro w5 sL _ cv _;have Dx:=h_ sL;have df:=cv w.heap.size n_;clear sL cv));obtain⟨c0,c1,c2,c3,c4⟩:=lL Dx.out;simp only[Nat.zero_add]at c1 c2 c3 c4;refine bodyPost_ret (v:= .tuple #[(bS.err 0).agg,.bool true,.int .i64 0]) (by simp[results,Tryz.results113,go_sem,c0,c1,c2,c3,c4]) rfl ?_;exact VA
def mX(l:List aD)(c n:Int)(a:bS):List aD×Int:=
 if oY l c n=false then([],2)else if n≤lQ l c then([],150)else(iw aD.aA ⟨c,n,a⟩ l,0)
def JM(w:World)(r:List aD×Int)(e:Ending)(w':World):Prop:=
 ∃a c,e= .returned (.tuple (Bp a r.1.length c r.2))∧r.1.length≤ c∧c≤ maxLen∧(a=none→ c=0)∧bF aB w' a r.1∧Below w.heap.size w w'
theorem YY {P:Prop}(h:P:=by
 go_returns
 exact⟨none,0,by rw[HA.out];rfl,by rw[HA.out];exact Nat.le_refl _,Nat.zero_le _,fun _=>rfl,by rw[HA.out];exact Row.nil _ _,aH⟩):P:=h
theorem Gc(l:List aD)(a:Option Addr)(n c:Nat)(id num:Int)(x:bS)(w:World)(hn:l.length= n)(hl:n≤ 10000)(hc:a= none→c= 0)(hnc:n≤ c)(hr:bF aB w a l):
 Calls Tryz.prog 114 #[.slice a n c,.int .i64 id,.int .i64 num,x.agg] w (JM w (mX l id num x)):=by
 have HA:Hid (mX l id num x=if oY l id num=false then([],2)else if num≤lQ l id then([],150)else(iw aD.aA ⟨id,num,x⟩ l,0)):=rfl;generalize mX l id num x=res at HA ⊢;have hm:=bD (Nat.le_trans hl d_:n≤ 1048576);obtain⟨xe,xr,xb,xl,xz⟩:=x;cases hs:oY l id num with
 |false=>
  have HS:=h_ hs;rw[hs,if_pos rfl]at HA;clear hs;go_enter Tryz.func114,Tryz.ntmps114;go_wp2_with(first|(go_at_call 157;((with_reducible refine(pU l _ _ _ _ _ _ hn hm (bF.below hr aH)).mono ?_);rw[HS.out];rintro e w2 ⟨rfl,hb⟩)));exact YY
 |true=>
  have HS:=h_ hs;obtain⟨hs1,hi1,hi2,J0⟩:=uV hs;have qE:=h_ hs1;have yG:=h_ (iN (n:=id) o_ o_);rw[hs,if_neg (by simp)]at HA;generalize EP:lQ l id=la at HA;have G8:=h_ EP;clear hs hs1 EP;by_cases h1:num≤ la
  ·rw[if_pos h1]at HA;go_enter Tryz.func114,Tryz.ntmps114;go_wp2_with(first|(go_at_call 157;((with_reducible refine(pU l _ _ _ _ _ _ hn hm (bF.below hr aH)).mono ?_);rw[HS.out];rintro e w2 ⟨rfl,hb⟩))|(go_at_call 159;((with_reducible refine(Gi l _ _ _ _ _ hn o_ (bF.below hr aH) yG.out).mono ?_);rw[G8.out];rintro e w3 ⟨rfl,hb3⟩)));exact YY
  ·rw[if_neg h1]at HA;go_enter Tryz.func114,Tryz.ntmps114;go_wp2_with(first|(go_at_call 157;((with_reducible refine(pU l _ _ _ _ _ _ hn hm (bF.below hr aH)).mono ?_);rw[HS.out];rintro e w2 ⟨rfl,hb⟩))|(go_at_call 159;((with_reducible refine(Gi l _ _ _ _ _ hn o_ (bF.below hr aH) yG.out).mono ?_);rw[G8.out];rintro e w3 ⟨rfl,hb3⟩;have Ek:Below (World.alloc w (.cells (mh xe xr xb xl xz) 40)).heap.size (World.alloc w (.cells (mh xe xr xb xl xz) 40)) w3:=aH;have hx3:=aW Ek;have zx3:=aY Ek;have Tu:=Below.boxed Ek;clear Ek))|(go_at_call 160;((with_reducible refine(RI l ⟨id,num,⟨xe,xr,xb,xl,xz⟩⟩ a _ _ _ hn hl hc hnc (bF.below hr aH) qE.out hi1 hi2).mono ?_);rintro e w4 ⟨a4,c4,rfl,h1,h2,h3,h4,hb4⟩)));go_returns;exact⟨a4,c4,by rw[HA.out];rfl,by rw[HA.out];exact h1,h2,h3,by rw[HA.out];exact h4,aH⟩
end Go.Proofs.YtfdmhpohfjbpfaaGreat
namespace Go.Proofs.YtfdmhpohfjbpfaaGreat
set_option maxHeartbeats 16000000
def val:List UInt8→Nat
 |[]=>0
 |c:: l=>c.toNat ^^^ (val l*2^ 8)
end Go.Proofs.YtfdmhpohfjbpfaaGreat
