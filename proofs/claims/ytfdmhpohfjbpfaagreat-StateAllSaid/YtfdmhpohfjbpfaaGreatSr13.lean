import Derived.Test.YtfdmhpohfjbpfaaGreatSrLedGrant
import Derived.Test.YtfdmhpohfjbpfaaGreatSrLedGrantOk
set_option linter.unusedVariables false
set_option linter.unusedSimpArgs false
namespace Go.Proofs.YtfdmhpohfjbpfaaGreat
open Go.ChangeShapes Go.WideShapes Go.ChangeAt Go.RowKit
set_option maxRecDepth 100000
set_option maxHeartbeats 16000000
theorem CO(s:St)(r:Raw)(B:Nat)(sh ep nu te sz:Int)(w:World)(h:aX w B r s)(hl1':s.ax.length≤ 800)(hl2:s.ai.length≤ 900)(cS:s.cd.length≤ 900)(hl4:s.aP.length≤ 900):
 Calls Tryz.prog 118 #[r.agg,.int .i64 sh,.int .i64 ep,.int .i64 nu,.int .i64 te,.int .i64 sz] w (DA w (cV s sh ep nu te sz)):=by
 by_cases Wu:cp s=true→ (1≤sh∧ sh≤8∧ 1≤ep∧ 1≤nu∧ 1≤sz∧ sz≤1000000)→(bf s.ax te).2=true→ (bf s.ax te).1.gone=false→ s.ai.length<64→ s.next<1099511627776→ (gi (bf s.ax te).1.bucket sz).2≠0
 ·exact Lt s r B sh ep nu te sz w h hl1' hl2 cS hl4 Wu
 ·simp only[Classical.not_imp,Decidable.not_not]at Wu;obtain⟨hok,⟨g1,g2,g3,g4,g5,g6⟩,hf,hgo,g7,g8,htk⟩:=Wu;obtain⟨h1,h2,h3,h4⟩:=bI hok;obtain⟨t1,t2⟩:=ry h1 hf;have hfit:Fits (s.ai++[⟨s.next,te,sh,ep,nu,sz,0⟩]):=by
   intro x hx;rcases List.mem_append.1 hx with hx|hx
   ·exact bU h1 h2 x hx
   ·rw[List.mem_singleton.1 hx];simp only;omega
  have hres:cV s sh ep nu te sz=(bG (jQ s {(bf s.ax te).1 with bucket:=(gi (bf s.ax te).1.bucket sz).1} ⟨s.next,te,sh,ep,nu,sz,0⟩),⟨0,(bf s.ax te).1.aK,(bf s.ax te).1.aq,s.next,sz⟩):=by
   unfold cV;rw[if_neg (by rw[hok];simp),if_neg (by unfold jo;omega),if_neg (by rw[hf,hgo];simp),if_neg o_,if_neg (by rw[htk];simp)];rfl
  rw[hres];have fk:bf s.ax te=((bf s.ax te).1,true):=by rw[←hf]
  generalize(bf s.ax te).1=x at*;obtain⟨cM,bH,aN,aL,fK⟩:=x;simp only at hgo htk;subst hgo;rcases uf aL sz with ht|ht
  ·rw[ht]at htk;simp at htk
  ·rw[ht];exact ID s r B sh ep nu te sz cM bH aN aL w h hl1' hl2 cS hl4 hok fk g1 g2 g3 g4 g5 g6 g7 g8 ht h3.2.1 hfit
abbrev pH(x:aD)(l:List aD):List aD×Bool:= l.foldl (cQ aD.aA x) ([],false)
theorem E8(x:aD):∀(l:List aD) (acc:List aD×Bool),(l.foldl (cQ aD.aA x) acc).1.length≤acc.1.length+ l.length*2
 |[],acc=>by simp
 |y:: l,acc=>by
  have:=E8 x l (cQ aD.aA x acc y);have h2:(cQ aD.aA x acc y).1.length≤acc.1.length+ 2:=by unfold cQ;simp only;split<;>split<;>simp
  rw[List.foldl_cons,List.length_cons];omega
def zA(w:World)(r:List aD×Int)(e:Ending)(w':World):Prop:=
 ∃a c,e= .returned (.tuple (Bp a r.1.length c r.2))∧r.1.length≤ c∧c≤ maxLen∧(a=none→ c=0)∧bF aB w' a r.1∧cg w.heap.size none a∧Below w.heap.size w w'
theorem zA.bY{w:World}{r:List aD×Int}{e:Ending}{w':World}(h:zA w r e w'):JM w r e w':=let ⟨a,c,h1,h2,h3,h4,h5,_,h6⟩:=h;⟨a,c,h1,h2,h3,h4,h5,h6⟩
theorem tq28 {P:Prop}(h:P:=by
 clear h2;go_wp2_with(first|(refine aa aB rfl (.tmp 59) rfl b (o+k* 7) rfl y y.agg rfl XD.out ?_)|(at_builtin;refine fS aB Tryz.underlying24 rfl (.tmp 56) (.tmp 61) rfl (w3.heap.size+1) a' out.length c' out rfl HOWN.out y rfl rfl tU N2 ?_;intro a5 c5 w5 ij cv;have qW:=h_ ij;clear ij));go_roundw
 case rel=>exact ⟨k+1,a5,c5,by omega,by go_num,by rw[nA.out];simp,by rw[nA.out],by rw[nA.out];have:=qW.out;rw[List.length_append];exact this,tu.trans (by rw[yH.out];exact cv)⟩
 case measure=>simp [intOf];omega):P:=h
theorem Y3 {P:Prop}(h:P:=by
 go_returns
 exact⟨none,0,by rw[HA.out];rfl,by rw[HA.out];exact Nat.le_refl _,Nat.zero_le _,fun _=>rfl,by rw[HA.out];exact Row.nil _ _,cg.nil _ _,aH⟩):P:=h
set_option maxRecDepth 100000 in
theorem xN(l:List aD)(a:Option Addr)(n c:Nat)(id num:Int)(x:bS)(w:World)(hn:l.length= n)(hl:n≤ 10000)(hr:bF aB w a l):
 Calls Tryz.prog 86 #[.slice a n c,.int .i64 id,.int .i64 num,x.agg] w (zA w (mX l id num x)):=by
 have HA:Hid (mX l id num x=if oY l id num=false then([],2)else if num≤lQ l id then([],150)else(iw aD.aA ⟨id,num,x⟩ l,0)):=rfl;generalize mX l id num x=res at HA ⊢;have hm:=bD (Nat.le_trans hl d_:n≤ 1048576);obtain⟨xe,xr,xb,xl,xz⟩:=x;cases hs:oY l id num with
 |false=>
  have HS:=h_ hs;rw[hs,if_pos rfl]at HA;clear hs;go_enter Tryz.func86,Tryz.ntmps86;go_wp2_with(first|(go_at_call 141;((with_reducible refine(jS l _ _ _ _ _ _ hn hm (bF.below hr aH)).mono ?_);rw[HS.out];rintro e w2 ⟨rfl,hb⟩)));exact Y3
 |true=>
  have HS:=h_ hs;obtain⟨hs1,hi1,hi2,J0⟩:=uV hs;rw[hs,if_neg (by simp)]at HA;generalize EP:lQ l id=la at HA;have G8:=h_ EP;by_cases h1:num≤ la
  ·rw[if_pos h1]at HA;clear hs hs1 EP;go_enter Tryz.func86,Tryz.ntmps86;go_wp2_with(first|(go_at_call 141;((with_reducible refine(jS l _ _ _ _ _ _ hn hm (bF.below hr aH)).mono ?_);rw[HS.out];rintro e w2 ⟨rfl,hb⟩))|(go_at_call 142;((with_reducible refine(lU l _ _ _ _ _ hn o_ (bF.below hr aH)).mono ?_);rw[G8.out];rintro e w3 ⟨rfl,hb3⟩)));exact Y3
  ·rw[if_neg h1]at HA;subst hn;have TZ:=h_ (C8 (key:=aD.aA) (x:=⟨id,num,⟨xe,xr,xb,xl,xz⟩⟩) (ck.1 hs1).2);clear hs hs1 EP;have Nf:Hid (∀k (hk:k< l.length),pH ⟨id,num,⟨xe,xr,xb,xl,xz⟩⟩ (l.take (k+1))=cQ aD.aA ⟨id,num,⟨xe,xr,xb,xl,xz⟩⟩ (pH ⟨id,num,⟨xe,xr,xb,xl,xz⟩⟩ (l.take k)) l[k]):=fun k hk=>by
    unfold pH;rw[List.take_succ_eq_append_getElem hk,List.foldl_append];rfl
   have HLEN:Hid (∀k,k≤l.length→ (pH ⟨id,num,⟨xe,xr,xb,xl,xz⟩⟩ (l.take k)).1.length≤k* 2):=fun k hk=>by
    have:=E8 ⟨id,num,⟨xe,xr,xb,xl,xz⟩⟩ (l.take k) ([],false);rw[List.length_take,Nat.min_eq_left hk]at this;simpa using this
   have cT:Hid (∀w3 w':World,Below (World.alloc w3 (.cells (aD.cells ⟨id,num,⟨xe,xr,xb,xl,xz⟩⟩).toArray 92)).heap.size (World.alloc w3 (.cells (aD.cells ⟨id,num,⟨xe,xr,xb,xl,xz⟩⟩).toArray 92)) w'→w'.rangeAt w3.heap.size 0 (aD.cells ⟨id,num,⟨xe,xr,xb,xl,xz⟩⟩)):=fun w3 w' hb=>jY hb
   go_enter Tryz.func86,Tryz.ntmps86;go_wp2_with(first|(go_at_call 141;((with_reducible refine(jS l _ _ _ _ _ _ rfl hm (bF.below hr aH)).mono ?_);rw[HS.out];rintro e w2 ⟨rfl,hb⟩))|(go_at_call 142;((with_reducible refine(lU l _ _ _ _ _ rfl o_ (bF.below hr aH)).mono ?_);rw[G8.out];rintro e w3 ⟨rfl,hb3⟩;have Ek:Below (World.alloc w (.cells (mh xe xr xb xl xz) 40)).heap.size (World.alloc w (.cells (mh xe xr xb xl xz) 40)) w3:=aH;have hx3:=aW Ek;have zx3:=aY Ek;have Tu:=Below.boxed Ek;clear Ek)));have X8:Below w.heap.size w w3:=aH;have hz3:=X8.size
   go_loopw [10,12,13] (fun so sd si wr=>∃k: Nat,∃a' c',k≤l.length∧ si= .int .i64 k∧so= .slice a' (pH ⟨id,num,⟨xe,xr,xb,xl,xz⟩⟩ (l.take k)).1.length c'∧sd= .bool (pH ⟨id,num,⟨xe,xr,xb,xl,xz⟩⟩ (l.take k)).2∧
    Hid (wr.ownsRow (w3.heap.size+1) 92 aB.size (.slice a' (pH ⟨id,num,⟨xe,xr,xb,xl,xz⟩⟩ (l.take k)).1.length c') (pH ⟨id,num,⟨xe,xr,xb,xl,xz⟩⟩ (l.take k)).1.length ((pH ⟨id,num,⟨xe,xr,xb,xl,xz⟩⟩ (l.take k)).1.flatMap aB.cells))∧
    Hid (Below (World.alloc w3 (.cells (aD.cells ⟨id,num,⟨xe,xr,xb,xl,xz⟩⟩).toArray 92)).heap.size (World.alloc w3 (.cells (aD.cells ⟨id,num,⟨xe,xr,xb,xl,xz⟩⟩).toArray 92)) wr)) (fun _ _ si _=>l.length- (intOf si).toNat)
   case atStart=>exact ⟨0,none,0,by omega,rfl,rfl,rfl,World.ownsRow_nil _ _ _ _,Below.refl _ _⟩
   case round=>
    obtain⟨k,a',c',hk,rfl,rfl,rfl,HOWN,tu⟩:=hrel;have kU:Below w.heap.size w wr:=(X8.alloc hz3 _).trans (tu.mono (by simp;omega));have Vc:=tu.size;by_cases hlt:k< l.length
    ·have gg:=HLEN.out k hk;obtain⟨b,o,rfl,hcs⟩:=bF.range hr hlt;have HY:=h_ hcs;have HST:=h_ (Nf k hlt);have HX:=h_ (cT w3 wr tu.out);generalize hacc:pH ⟨id,num,⟨xe,xr,xb,xl,xz⟩⟩ (l.take k)=acc at HOWN gg HST ⊢;clear hacc hcs;obtain⟨out,dn⟩:=acc;simp only at gg;generalize hyy:l[k]=y at HY HST;clear hyy;have XD:=h_ (HY wr kU);obtain⟨hy0,_⟩:=kA XD.out;have acE:wr.cell? ⟨b,o+k* 7,none⟩=some (.int .i64 y.aA):=hy0;clear hy0;have N2:w3.heap.size+ 1≤wr.heap.size:= by simp at Vc;omega
     have Hd:w.heap.size≤ w3.heap.size+1:= o_;have tU:(out.length+1)*aB.bytes≤ 140737488355328:=by show(out.length+1)*56≤ _;omega
     have Oa:(out.length+1+ 1)*aB.bytes≤ 140737488355328:=by show(out.length+1+ 1)*56≤ _;omega
     have hsz:(World.alloc w3 (.cells (aD.cells ⟨id,num,⟨xe,xr,xb,xl,xz⟩⟩).toArray 92)).heap.size=w3.heap.size+ 1:=by simp
     have yH:=h_ hsz;clear hsz;cases dn with
     |false=>
      by_cases h1:id≤ y.aA
      ·have g1:decide (id≤y.aA)=true:= decide_eq_true h1;by_cases h2:y.aA= id
       ·have g2:(y.aA !=id)=false:= by simp[h2]
        have nA:Hid (pH ⟨id,num,⟨xe,xr,xb,xl,xz⟩⟩ (l.take (k+1))=(out++[⟨id,num,⟨xe,xr,xb,xl,xz⟩⟩],true)):=by show _=_;rw[HST.out];simp[cQ,h1,h2]
        clear h2;go_wp2_with(first|(refine aa aB rfl (.tmp 11) rfl w3.heap.size 0 rfl ⟨id,num,⟨xe,xr,xb,xl,xz⟩⟩ (aD.agg ⟨id,num,⟨xe,xr,xb,xl,xz⟩⟩) rfl HX.out ?_)|(at_builtin;refine fS aB Tryz.underlying24 rfl (.tmp 45) (.tmp 47) rfl (w3.heap.size+1) a' out.length c' out rfl HOWN.out ⟨id,num,⟨xe,xr,xb,xl,xz⟩⟩ rfl rfl tU N2 ?_;intro a2 c2 w4 eG hb4;have om:=h_ eG;have hB4:=hb4.size;have KB:=h_ (HY w4 (kU.trans (hb4.mono Hd)));have OI:w4.cell? ⟨b,o+k* 7,none⟩=some (.int .i64 y.aA):=(kA KB.out).1;clear eG));go_roundw
        case rel=>exact ⟨k+1,a2,c2,by omega,by go_num,by rw[nA.out];simp,by rw[nA.out],by rw[nA.out];have:=om.out;rw[List.length_append];exact this,tu.trans (by rw[yH.out];exact hb4)⟩
        case measure=>simp [intOf];omega
       ·have g2:(y.aA !=id)=true:= by simpa using h2
        have nA:Hid (pH ⟨id,num,⟨xe,xr,xb,xl,xz⟩⟩ (l.take (k+1))=((out++[⟨id,num,⟨xe,xr,xb,xl,xz⟩⟩])++[y],true)):=by show _=_;rw[HST.out];simp[cQ,h1,h2]
        clear h2;go_wp2_with(first|(refine aa aB rfl (.tmp 11) rfl w3.heap.size 0 rfl ⟨id,num,⟨xe,xr,xb,xl,xz⟩⟩ (aD.agg ⟨id,num,⟨xe,xr,xb,xl,xz⟩⟩) rfl HX.out ?_)|(at_builtin;refine fS aB Tryz.underlying24 rfl (.tmp 45) (.tmp 47) rfl (w3.heap.size+1) a' out.length c' out rfl HOWN.out ⟨id,num,⟨xe,xr,xb,xl,xz⟩⟩ rfl rfl tU N2 ?_;intro a2 c2 w4 eG hb4;have om:=h_ eG;have hB4:=hb4.size;have KB:=h_ (HY w4 (kU.trans (hb4.mono Hd)));have OI:w4.cell? ⟨b,o+k* 7,none⟩=some (.int .i64 y.aA):=(kA KB.out).1;clear eG)|(refine aa aB rfl (.tmp 59) rfl b (o+k* 7) rfl y y.agg rfl KB.out ?_)|(at_builtin;refine fS aB Tryz.underlying24 rfl (.tmp 56) (.tmp 61) rfl (w3.heap.size+1) a2 (out.length+1) c2 (out++[⟨id,num,⟨xe,xr,xb,xl,xz⟩⟩]) rfl om.out y rfl rfl Oa o_ ?_;intro a5 c5 w5 ij cv;have qW:=h_ ij;clear ij));go_roundw
        case rel=>exact ⟨k+1,a5,c5,by omega,by go_num,by rw[nA.out];simp,by rw[nA.out],by rw[nA.out];have:=qW.out;rw[List.length_append,List.length_append];exact this,tu.trans (by rw[yH.out];exact hb4.trans cv)⟩
        case measure=>simp [intOf];omega
      ·have g1:decide (id≤y.aA)=false:= decide_eq_false h1;have h2:¬y.aA= id:=o_;have g2:(y.aA !=id)=true:= by simpa using h2
       have nA:Hid (pH ⟨id,num,⟨xe,xr,xb,xl,xz⟩⟩ (l.take (k+1))=(out++[y],false)):=by show _=_;rw[HST.out];simp[cQ,h1,h2]
       exact tq28
     |true=>
      by_cases h2:y.aA= id
      ·have g2:(y.aA !=id)=false:= by simp[h2]
       have nA:Hid (pH ⟨id,num,⟨xe,xr,xb,xl,xz⟩⟩ (l.take (k+1))=(out,true)):=by show _=_;rw[HST.out];simp[cQ,h2]
       clear h2;go_wp2;go_roundw
       case rel=>exact ⟨k+1,a',c',by omega,by go_num,by rw[nA.out],by rw[nA.out],by rw[nA.out];exact HOWN.out,tu.out⟩
       case measure=>simp [intOf];omega
      ·have g2:(y.aA !=id)=true:= by simpa using h2
       have nA:Hid (pH ⟨id,num,⟨xe,xr,xb,xl,xz⟩⟩ (l.take (k+1))=(out++[y],true)):=by show _=_;rw[HST.out];simp[cQ,h2]
       exact tq28
    ·obtain rfl:k= l.length:=o_;rw[List.take_length]at HOWN;have uB:Hid (l.take l.length=l):=List.take_length;have TY:Hid (iw aD.aA ⟨id,num,⟨xe,xr,xb,xl,xz⟩⟩ l=if (pH ⟨id,num,⟨xe,xr,xb,xl,xz⟩⟩ l).2 then(pH ⟨id,num,⟨xe,xr,xb,xl,xz⟩⟩ l).1 else(pH ⟨id,num,⟨xe,xr,xb,xl,xz⟩⟩ l).1++[⟨id,num,⟨xe,xr,xb,xl,xz⟩⟩]):=TZ.symm;have gg:=HLEN.out l.length n_;rw[List.take_length]at gg;rw[uB.out];generalize hacc:pH ⟨id,num,⟨xe,xr,xb,xl,xz⟩⟩ l=acc at HOWN TY gg ⊢;clear hacc;obtain⟨out,dn⟩:=acc;have N2:w3.heap.size+ 1≤wr.heap.size:= by simp at Vc;omega
     have tU:(out.length+1)*aB.bytes≤ 140737488355328:=by simp only at gg;show(out.length+1)*56≤ _;omega
     have HX:=h_ (cT w3 wr tu.out);have Hd:w.heap.size≤ w3.heap.size+1:= o_;simp only at HOWN;cases dn with
     |true=>
      have HO:Hid (res=(out,0)):=by show _=_;rw[HA.out,TY.out];simp
      obtain⟨q1,q2,q3,q4⟩:=AH HOWN.out;go_wp2;go_returns;exact⟨a',c',by rw[HO.out];rfl,by rw[HO.out];exact q1,q2,q3,by rw[HO.out];exact q4,cg.own HOWN.out Hd,kU⟩
     |false=>
      have HO:Hid (res=(out++[⟨id,num,⟨xe,xr,xb,xl,xz⟩⟩],0)):=by show _=_;rw[HA.out,TY.out];simp
      go_wp2_with(first|(refine aa aB rfl (.tmp 11) rfl w3.heap.size 0 rfl ⟨id,num,⟨xe,xr,xb,xl,xz⟩⟩ (aD.agg ⟨id,num,⟨xe,xr,xb,xl,xz⟩⟩) rfl HX.out ?_)|(at_builtin;refine fS aB Tryz.underlying24 rfl (.tmp 65) (.tmp 67) rfl (w3.heap.size+1) a' out.length c' out rfl HOWN.out ⟨id,num,⟨xe,xr,xb,xl,xz⟩⟩ rfl rfl tU N2 ?_;intro a2 c2 w4 eG hb4;have om:=h_ eG;clear eG));go_returns;obtain⟨q1,q2,q3,q4⟩:=AH om.out;exact⟨a2,c2,by rw[HO.out];simp,by rw[HO.out];simpa using q1,q2,q3,by rw[HO.out];exact q4,cg.own om.out Hd,kU.trans (hb4.mono Hd)⟩
theorem oZ{P:Program}{e:TypeId}{α:Type}{L:iW P e α}{w:World}{B:Nat}{a:Option Addr}{n c:Nat}{xs:List α}(h:w.ownsRow B e L.size (.slice a n c) n (xs.flatMap L.cells)):n≤ c∧c≤ maxLen∧(a=none→ c=0)∧bF L w a xs:=by
 obtain⟨a',c',hv,h1,h2,h3⟩:=eN h;simp only[Value.slice.injEq]at hv;obtain⟨rfl,_,rfl⟩:=hv;exact⟨h1,h2,h3,jO h⟩
def rO:bR:= ⟨0,0,0,⟨0,0,0,0,0⟩⟩
def KZ(l:List bR)(id:Int):bR× Bool:=match fN bR.ak l id with|some d=>(d,true)|none=> (rO,false)
theorem UD{l:List bR}{id:Int}{k:Nat}(hs:eV l=true)(hk:k< l.length)(h:l[k].ak=id):KZ l id=(l[k],true):=by
 unfold KZ;rw[zN (ck.1 hs).2 hk h]
theorem NQ{l:List bR}{id:Int}(h:∀j (hj:j< l.length),l[j].ak≠id):KZ l id=(rO,false):=by
 unfold KZ;rw[tR h]
def Nv(w:World)(r:bR× Bool)(e:Ending)(w':World):Prop:= e= .returned (.tuple #[r.1.agg,.bool r.2])∧Below w.heap.size w w'
def SP(w:World)(l:List bR)(e:Ending)(w':World):Prop:= ∃a c,e= .returned (.slice a l.length c)∧l.length≤ c∧c≤ maxLen∧(a=none→ c=0)∧bF ay w' a l∧cg w.heap.size none a∧Below w.heap.size w w'
theorem GA(l:List bR)(a:Option Addr)(n c:Nat)(id:Int)(w:World)(hn:l.length= n)(hl:n≤ 1000000)(hs:eV l=true)(hr:bF ay w a l):
 Calls Tryz.prog 87 (Bp a n c id) w (Nv w (KZ l id)):=by
 subst hn;have HAT:=h_ (fun k (hk:k< l.length)=>UD (id:=id) hs hk);have sP:=h_ (NQ (l:=l) (id:=id));have lH:Hid (Below w.heap.size w (w.alloc (.cells Ty 66))):=ah b_;have HR:=h_ hr;have ZP:Hid (aU (w.alloc (.cells Ty 66)) w.heap.size rO.cells):=aU.aR (w:=w) b_;generalize KZ l id=res at HAT sP ⊢;clear hs hr;go_enter Tryz.func87,Tryz.ntmps87;go_wp2;go_loopw [6] (fun i wr=>∃k: Nat,k≤l.length∧ i= .int .i64 k∧Hid (∀j (h:j< l.length),j<k→ l[j].ak≠id)∧wr= (w.alloc (.cells Ty 66))) (fun i _=>l.length- (intOf i).toNat)
 case atStart=>exact ⟨0,by omega,rfl,(fun j _ hj=>by omega),rfl⟩
 case round=>
  obtain⟨k,hk,rfl,hno,rfl⟩:=hrel;by_cases hlt:k< l.length
  ·obtain⟨b,o,rfl,hcs⟩:=bF.range HR.out hlt;have gB:=h_ (hcs _ lH.out);have WX:=h_ (HAT k hlt);clear hcs;have HQ:Hid (l[k]=l[k]):=rfl;generalize hx:l[k]=x at gB WX;have HX:=h_ hx;clear hx;obtain⟨x0,x1,x2,⟨xe,xr,xb,xl,xz⟩⟩:=x;have y0:(w.alloc (.cells Ty 66)).cell? ⟨b,o+k* 8,none⟩=some (.int .i64 x0):=(dw gB.out).1;by_cases he:x0= id
   ·have HO:=h_ (WX he);go_wp2_with(first|((with_reducible refine bC 66 (.tmp 22) ?_);refine aa ay rfl (.tmp 22) rfl b (o+k* 8) rfl ⟨x0,x1,x2,⟨xe,xr,xb,xl,xz⟩⟩ (bR.agg ⟨x0,x1,x2,⟨xe,xr,xb,xl,xz⟩⟩) rfl gB.out ?_)|((with_reducible refine aO 66 (.tmp 4) (.tmp 23) ?_);refine av ay rfl (.tmp 4) (.tmp 23) rfl w.heap.size ⟨x0,x1,x2,⟨xe,xr,xb,xl,xz⟩⟩ _ rfl rfl ZP.out rfl ?_;intro w8 eD fH;have iY:=h_ eD;have iT:=h_ fH;clear eD fH));obtain⟨c0,c1,c2,c3,c4,c5,c6,c7⟩:=dw iY.range;simp only[Nat.zero_add]at c0 c1 c2 c3 c4 c5 c6 c7;refine bodyPost_ret (v:= .tuple #[bR.agg ⟨x0,x1,x2,⟨xe,xr,xb,xl,xz⟩⟩,.bool true]) (by simp[results,Tryz.results87,go_sem,c0,c1,c2,c3,c4,c5,c6,c7]) rfl ?_;exact⟨by rw[HO.out],lH.trans (iT.below _ n_)⟩
   ·have hne:(x0==id)=false:= by simpa using he
    go_wp2;go_roundw
    case rel=>exact ⟨k+1,by omega,by go_num,(fun j h hj=>by rcases Nat.lt_succ_iff_lt_or_eq.1 hj with h1|rfl;exact hno.out j h h1;rw[HX.out];exact he),(by first|rfl| trivial)⟩
    case measure=>simp [intOf];omega
  ·obtain rfl:k= l.length:=o_;have HO:=h_ (sP (fun j hj=>hno.out j hj hj));go_wp2_with((with_reducible refine aO 66 (.tmp 4) (.tmp 24) ?_);refine av ay rfl (.tmp 4) (.tmp 24) rfl w.heap.size rO _ rfl rfl ZP.out rfl ?_;intro w8 eD fH;have iY:=h_ eD;have iT:=h_ fH;clear eD fH);obtain⟨c0,c1,c2,c3,c4,c5,c6,c7⟩:=dw iY.range;simp only[Nat.zero_add,rO]at c0 c1 c2 c3 c4 c5 c6 c7;refine bodyPost_ret (v:= .tuple #[rO.agg,.bool false]) (by simp[results,Tryz.results87,go_sem,c0,c1,c2,c3,c4,c5,c6,c7,rO]) rfl ?_;exact⟨by rw[HO.out],lH.trans (iT.below _ n_)⟩
abbrev pG(x:bR)(l:List bR):List bR×Bool:= l.foldl (cQ bR.ak x) ([],false)
theorem E7(x:bR):∀(l:List bR) (acc:List bR×Bool),(l.foldl (cQ bR.ak x) acc).1.length≤acc.1.length+ l.length*2
 |[],acc=>by simp
 |y:: l,acc=>by
  have:=E7 x l (cQ bR.ak x acc y);have h2:(cQ bR.ak x acc y).1.length≤acc.1.length+ 2:=by unfold cQ;simp only;split<;>split<;>simp
  rw[List.foldl_cons,List.length_cons];omega
theorem tq30 {P:Prop}(h:P:=by
 clear h2;go_wp2;go_quiet (fail);go_wp2;go_quiet (fail);go_wp2_with(first|((with_reducible refine bC 66 (.tmp 41) ?_);refine aa ay rfl (.tmp 41) rfl b (o+k* 8) rfl y y.agg rfl (by exact XD.out) ?_)|(at_builtin;refine fS ay Tryz.underlying25 rfl (.tmp 38) (.tmp 43) rfl (w.heap.size+1) a' (out.length) c' (out) rfl (by exact HOWN.out) y rfl rfl tU (by exact N2) ?_;intro a5 c5 w5 ij wI;have cv:Below (w.heap.size+1) wr w5:=⟨wI.os,wI.tape,wI.output,wI.size,wI.block⟩;have qW:=h_ ij;clear ij wI));go_roundw
 case rel=>exact ⟨k+1,a5,c5,by omega,by go_num,by rw[nA.out];simp,by rw[nA.out],by rw[nA.out];have:=qW.out;rw[List.length_append];exact this,tu.trans (by rw[yH.out];exact cv)⟩
 case measure=>simp [intOf];omega):P:=h
theorem GC(l:List bR)(a:Option Addr)(n c:Nat)(x:bR)(w:World)(hn:l.length= n)(hl:n≤ 10000)(hs1:eV l=true)(hr:bF ay w a l):
 Calls Tryz.prog 89 #[.slice a n c,x.agg] w (SP w (iw bR.ak x l)):=by
 obtain⟨res,HA⟩:∃res,Hid (res=iw bR.ak x l):=⟨_,h_ rfl⟩;rw[←HA.out];obtain⟨d0,d1,d2,⟨de,dr,db,dl,dz⟩⟩:=x;subst hn;have TZ:=h_ (C8 (key:=bR.ak) (x:=⟨d0,d1,d2,⟨de,dr,db,dl,dz⟩⟩) (ck.1 hs1).2);have HR:=h_ hr;clear hs1 hr;have Nf:Hid (∀k (hk:k< l.length),pG ⟨d0,d1,d2,⟨de,dr,db,dl,dz⟩⟩ (l.take (k+1))=cQ bR.ak ⟨d0,d1,d2,⟨de,dr,db,dl,dz⟩⟩ (pG ⟨d0,d1,d2,⟨de,dr,db,dl,dz⟩⟩ (l.take k)) l[k]):=fun k hk=>by
  unfold pG;rw[List.take_succ_eq_append_getElem hk,List.foldl_append];rfl
 have HLEN:Hid (∀k,k≤l.length→ (pG ⟨d0,d1,d2,⟨de,dr,db,dl,dz⟩⟩ (l.take k)).1.length≤k* 2):=fun k hk=>by
  have:=E7 ⟨d0,d1,d2,⟨de,dr,db,dl,dz⟩⟩ (l.take k) ([],false);rw[List.length_take,Nat.min_eq_left hk]at this;simpa using this
 have cT:Hid (∀w': World,Below (World.alloc w (.cells (bR.cells ⟨d0,d1,d2,⟨de,dr,db,dl,dz⟩⟩).toArray 66)).heap.size (World.alloc w (.cells (bR.cells ⟨d0,d1,d2,⟨de,dr,db,dl,dz⟩⟩).toArray 66)) w'→w'.rangeAt w.heap.size 0 (bR.cells ⟨d0,d1,d2,⟨de,dr,db,dl,dz⟩⟩)):=fun w' hb=>jY hb
 go_enter Tryz.func89,Tryz.ntmps89;go_wp2
 go_loopw [5,6,7] (fun so sd si wr=>∃k: Nat,∃a' c',k≤l.length∧ si= .int .i64 k∧so= .slice a' (pG ⟨d0,d1,d2,⟨de,dr,db,dl,dz⟩⟩ (l.take k)).1.length c'∧sd= .bool (pG ⟨d0,d1,d2,⟨de,dr,db,dl,dz⟩⟩ (l.take k)).2∧
  Hid (wr.ownsRow (w.heap.size+1) 66 ay.size (.slice a' (pG ⟨d0,d1,d2,⟨de,dr,db,dl,dz⟩⟩ (l.take k)).1.length c') (pG ⟨d0,d1,d2,⟨de,dr,db,dl,dz⟩⟩ (l.take k)).1.length ((pG ⟨d0,d1,d2,⟨de,dr,db,dl,dz⟩⟩ (l.take k)).1.flatMap ay.cells))∧
  Hid (Below (World.alloc w (.cells (bR.cells ⟨d0,d1,d2,⟨de,dr,db,dl,dz⟩⟩).toArray 66)).heap.size (World.alloc w (.cells (bR.cells ⟨d0,d1,d2,⟨de,dr,db,dl,dz⟩⟩).toArray 66)) wr)) (fun _ _ si _=>l.length- (intOf si).toNat)
 case atStart=>exact ⟨0,none,0,by omega,rfl,rfl,rfl,World.ownsRow_nil _ _ _ _,Below.refl _ _⟩
 case round=>
  obtain⟨k,a',c',hk,rfl,rfl,rfl,HOWN,tu⟩:=hrel;have kU:Below w.heap.size w wr:=((Below.refl w.heap.size w).alloc n_ _).trans (tu.mono (by simp));have Vc:=tu.size;have HX:=h_ (cT wr tu.out);have x0c:wr.cell? ⟨w.heap.size,0,none⟩=some (.int .i64 d0):=by {have:=(dw HX.out).1;exact this}
  have N2:w.heap.size+ 1≤wr.heap.size:= by simp at Vc;omega
  have Hd:w.heap.size≤ w.heap.size+1:= Nat.le_succ _;have hsz:(World.alloc w (.cells (bR.cells ⟨d0,d1,d2,⟨de,dr,db,dl,dz⟩⟩).toArray 66)).heap.size=w.heap.size+ 1:=by simp
  have yH:=h_ hsz;clear hsz Vc;by_cases hlt:k< l.length
  ·have gg:=HLEN.out k hk;obtain⟨b,o,rfl,hcs⟩:=bF.range HR.out hlt;have HY:=h_ hcs;have HST:=h_ (Nf k hlt);generalize hacc:pG ⟨d0,d1,d2,⟨de,dr,db,dl,dz⟩⟩ (l.take k)=acc at HOWN gg HST ⊢;clear hacc hcs;obtain⟨out,dn⟩:=acc;simp only at gg;generalize hyy:l[k]=y at HY HST;clear hyy;have XD:=h_ (HY wr kU);have acE:wr.cell? ⟨b,o+k* 8,none⟩=some (.int .i64 y.ak):=(dw XD.out).1;have tU:(out.length+1)*ay.bytes≤ 140737488355328:=by show(out.length+1)*64≤ _;omega
   have Oa:(out.length+1+ 1)*ay.bytes≤ 140737488355328:=by show(out.length+1+ 1)*64≤ _;omega
   cases dn with
   |false=>
    by_cases h1:d0≤ y.ak
    ·have g1:decide (d0≤y.ak)=true:= decide_eq_true h1;by_cases h2:y.ak= d0
     ·have g2:(y.ak !=d0)=false:= by simp[h2]
      have nA:Hid (pG ⟨d0,d1,d2,⟨de,dr,db,dl,dz⟩⟩ (l.take (k+1))=(out++[⟨d0,d1,d2,⟨de,dr,db,dl,dz⟩⟩],true)):=by show _=_;rw[HST.out];simp[cQ,h1,h2]
      clear h2;go_wp2;go_quiet (fail);go_wp2_with(first|((with_reducible refine bC 66 (.tmp 3) ?_);refine aa ay rfl (.tmp 3) rfl w.heap.size 0 rfl ⟨d0,d1,d2,⟨de,dr,db,dl,dz⟩⟩ (bR.agg ⟨d0,d1,d2,⟨de,dr,db,dl,dz⟩⟩) rfl (by exact HX.out) ?_)|(at_builtin;refine fS ay Tryz.underlying25 rfl (.tmp 26) (.tmp 28) rfl (w.heap.size+1) a' out.length c' out rfl (by exact HOWN.out) ⟨d0,d1,d2,⟨de,dr,db,dl,dz⟩⟩ rfl rfl tU (by exact N2) ?_;intro a2 c2 w4 eG sI;have hb4:Below (w.heap.size+1) wr w4:=⟨sI.os,sI.tape,sI.output,sI.size,sI.block⟩;have om:=h_ eG;have hB4:=hb4.size;have KB:=h_ (HY w4 (kU.trans (hb4.mono Hd)));have OI:w4.cell? ⟨b,o+k* 8,none⟩=some (.int .i64 y.ak):=(dw KB.out).1;have gm:=h_ (cT w4 (tu.trans (by rw[yH.out];exact hb4)));have x4c:w4.cell? ⟨w.heap.size,0,none⟩=some (.int .i64 d0):=by {have:=(dw gm.out).1;exact this};clear eG sI));go_quiet (fail);go_wp2;go_roundw
      case rel=>exact ⟨k+1,a2,c2,by omega,by go_num,by rw[nA.out];simp,by rw[nA.out],by rw[nA.out];have:=om.out;rw[List.length_append];exact this,tu.trans (by rw[yH.out];exact below_drewN hb4 _)⟩
      case measure=>simp [intOf];omega
     ·have g2:(y.ak !=d0)=true:= by simpa using h2
      have nA:Hid (pG ⟨d0,d1,d2,⟨de,dr,db,dl,dz⟩⟩ (l.take (k+1))=((out++[⟨d0,d1,d2,⟨de,dr,db,dl,dz⟩⟩])++[y],true)):=by show _=_;rw[HST.out];simp[cQ,h1,h2]
      clear h2;go_wp2;go_quiet (fail);go_wp2_with(first|((with_reducible refine bC 66 (.tmp 3) ?_);refine aa ay rfl (.tmp 3) rfl w.heap.size 0 rfl ⟨d0,d1,d2,⟨de,dr,db,dl,dz⟩⟩ (bR.agg ⟨d0,d1,d2,⟨de,dr,db,dl,dz⟩⟩) rfl (by exact HX.out) ?_)|(at_builtin;refine fS ay Tryz.underlying25 rfl (.tmp 26) (.tmp 28) rfl (w.heap.size+1) a' out.length c' out rfl (by exact HOWN.out) ⟨d0,d1,d2,⟨de,dr,db,dl,dz⟩⟩ rfl rfl tU (by exact N2) ?_;intro a2 c2 w4 eG sI;have hb4:Below (w.heap.size+1) wr w4:=⟨sI.os,sI.tape,sI.output,sI.size,sI.block⟩;have om:=h_ eG;have hB4:=hb4.size;have KB:=h_ (HY w4 (kU.trans (hb4.mono Hd)));have OI:w4.cell? ⟨b,o+k* 8,none⟩=some (.int .i64 y.ak):=(dw KB.out).1;have gm:=h_ (cT w4 (tu.trans (by rw[yH.out];exact hb4)));have x4c:w4.cell? ⟨w.heap.size,0,none⟩=some (.int .i64 d0):=by {have:=(dw gm.out).1;exact this};clear eG sI));go_quiet (fail);go_wp2_with(first|((with_reducible refine bC 66 (.tmp 41) ?_);refine aa ay rfl (.tmp 41) rfl b (o+k* 8) rfl y y.agg rfl (by exact KB.out) ?_)|(at_builtin;refine fS ay Tryz.underlying25 rfl (.tmp 38) (.tmp 43) rfl (w.heap.size+1) a2 (out.length+1) c2 (out++[⟨d0,d1,d2,⟨de,dr,db,dl,dz⟩⟩]) rfl (by exact om.out) y rfl rfl Oa (by exact(Nat.le_trans N2 hB4)) ?_;intro a5 c5 w5 ij wI;have cv:Below (w.heap.size+1) w4 w5:=⟨wI.os,wI.tape,wI.output,wI.size,wI.block⟩;have qW:=h_ ij;clear ij wI));go_roundw
      case rel=>exact ⟨k+1,a5,c5,by omega,by go_num,by rw[nA.out];simp,by rw[nA.out],by rw[nA.out];have:=qW.out;rw[List.length_append,List.length_append];exact this,tu.trans (by rw[yH.out];exact hb4.trans cv)⟩
      case measure=>simp [intOf];omega
    ·have g1:decide (d0≤y.ak)=false:= decide_eq_false h1;have h2:¬y.ak= d0:=o_;have g2:(y.ak !=d0)=true:= by simpa using h2
     have nA:Hid (pG ⟨d0,d1,d2,⟨de,dr,db,dl,dz⟩⟩ (l.take (k+1))=(out++[y],false)):=by show _=_;rw[HST.out];simp[cQ,h1,h2]
     exact tq30
   |true=>
    by_cases h2:y.ak= d0
    ·have g2:(y.ak !=d0)=false:= by simp[h2]
     have nA:Hid (pG ⟨d0,d1,d2,⟨de,dr,db,dl,dz⟩⟩ (l.take (k+1))=(out,true)):=by show _=_;rw[HST.out];simp[cQ,h2]
     clear h2;go_wp2;go_quiet (fail);go_wp2;go_quiet (fail);go_wp2;go_roundw
     case rel=>exact ⟨k+1,a',c',by omega,by go_num,by rw[nA.out],by rw[nA.out],by rw[nA.out];have:=HOWN.out;exact this,(by first|exact below_drewN tu.out _|exact below_drewN (below_drewN tu.out _) _)⟩
     case measure=>simp [intOf];omega
    ·have g2:(y.ak !=d0)=true:= by simpa using h2
     have nA:Hid (pG ⟨d0,d1,d2,⟨de,dr,db,dl,dz⟩⟩ (l.take (k+1))=(out++[y],true)):=by show _=_;rw[HST.out];simp[cQ,h2]
     exact tq30
  ·obtain rfl:k= l.length:=o_;have gg:=HLEN.out l.length n_;rw[List.take_length]at HOWN gg;have uB:Hid (l.take l.length=l):=List.take_length;have TY:Hid (iw bR.ak ⟨d0,d1,d2,⟨de,dr,db,dl,dz⟩⟩ l=if (pG ⟨d0,d1,d2,⟨de,dr,db,dl,dz⟩⟩ l).2 then(pG ⟨d0,d1,d2,⟨de,dr,db,dl,dz⟩⟩ l).1 else(pG ⟨d0,d1,d2,⟨de,dr,db,dl,dz⟩⟩ l).1++[⟨d0,d1,d2,⟨de,dr,db,dl,dz⟩⟩]):=TZ.symm;rw[uB.out];generalize hacc:pG ⟨d0,d1,d2,⟨de,dr,db,dl,dz⟩⟩ l=acc at HOWN TY gg ⊢;clear hacc;obtain⟨out,dn⟩:=acc;have tU:(out.length+1)*ay.bytes≤ 140737488355328:=by simp only at gg;show(out.length+1)*64≤ _;omega
   simp only at HOWN;cases dn with
   |true=>
    have HO:Hid (res=out):=by show _=_;rw[HA.out,TY.out];simp
    obtain⟨q1,q2,q3,q4⟩:=oZ HOWN.out;go_wp2;go_returns;exact⟨a',c',by rw[HO.out];rfl,by rw[HO.out];exact q1,q2,q3,by rw[HO.out];exact q4,cg.own HOWN.out Hd,kU⟩
   |false=>
    have HO:Hid (res=out++ [⟨d0,d1,d2,⟨de,dr,db,dl,dz⟩⟩]):=by show _=_;rw[HA.out,TY.out];simp
    go_wp2_with(first|((with_reducible refine bC 66 (.tmp 3) ?_);refine aa ay rfl (.tmp 3) rfl w.heap.size 0 rfl ⟨d0,d1,d2,⟨de,dr,db,dl,dz⟩⟩ (bR.agg ⟨d0,d1,d2,⟨de,dr,db,dl,dz⟩⟩) rfl HX.out ?_)|(at_builtin;refine fS ay Tryz.underlying25 rfl (.tmp 47) (.tmp 49) rfl (w.heap.size+1) a' out.length c' out rfl HOWN.out ⟨d0,d1,d2,⟨de,dr,db,dl,dz⟩⟩ rfl rfl tU N2 ?_;intro a2 c2 w4 eG hb4;have om:=h_ eG;clear eG));go_returns;obtain⟨q1,q2,q3,q4⟩:=oZ om.out;exact⟨a2,c2,by rw[HO.out];simp,by rw[HO.out];simpa using q1,q2,q3,by rw[HO.out];exact q4,cg.own om.out Hd,kU.trans (hb4.mono Hd)⟩
theorem AE(w:World)(vb g o m vc lb cb:Nat)(tA tB:TypeId)(cA cB:Array Value)(hne:vb≠ g)(hA:w.heap[vb]? =some (.cells cA tA (0,0)))(hB:w.heap[g]? =some (.cells cB tB (0,0)))(hk:cB.size≠ 0):
 (callFunc 166 (vs2 (some ⟨vb,0,none⟩) m vc (some ⟨g,o,none⟩) lb cb)).run Tryz.prog w= .ok (.value (.bool false)) w:=by
 obtain⟨i,z,h2,_,h3,_⟩:=(ay).parts;have hsz:∀w,(sizeOf 66).run Tryz.prog w= .ok (ay).size w:=fun w=>by simp[sizeOf,typeInfo,h2,h3]
 rw[run_callFunc_extern Tryz.func166 k_ k_ k_ (e:=Extern.SlicesOverlaps.overlaps #[25,25] #[4]) k_,
  Lib.run_overlaps_apart w 25 4 66 Tryz.underlying25 (ay).size hsz ⟨vb,0,none⟩ ⟨g,o,none⟩ m vc lb cb hne tA tB cA.size cB.size
   (by simp[World.shape?,hA]) (by simp[World.shape?,hB]) hk (by simp[World.frozen?,hA]) (by simp[World.frozen?,hA])]
 rfl
theorem uW(xs:List bR)(x:bR)(i:Nat):(xs.take i++x:: xs.drop i).flatMap (ay).cells=(xs.take i).flatMap (ay).cells++((ay).cells x++(xs.drop i).flatMap (ay).cells):=by
 rw[List.flatMap_append,List.flatMap_cons]
set_option maxRecDepth 100000 in
theorem DF(xs:List bR)(y:bR)(a:Option Addr)(n c:Nat)(cM:FuncId)(cap:Array Value)(cmp:bR→ Int)(k0:Nat)(w:World)(hn:xs.length= n)(hl:n≤ 1000000)(hr:bF ay w a xs)(qp:∀(args:Array Value) (w:World),(callFunc cM args).run Tryz.prog w= .ok (.enter cM args) w)(hf:∀x∈ xs,∀w',Below w.heap.size w w'→Calls Tryz.prog cM (#[x.agg,y.agg]++cap) w' fun e w''=>e= .returned (.int .i64 (cmp x))∧Below w'.heap.size w' w'')(FN:k0≤ n)(hlo:∀j (h:j< xs.length),j<k0→ cmp xs[j]<0)(hhi:∀j (h:j< xs.length),k0≤j→ 0≤cmp xs[j]):
 Calls Tryz.prog 119 #[.slice a n c,y.agg,.func (.func cM) #[] cap] w fun e w'=>e= .returned (.tuple (WS k0 (qs cmp xs[k0]?)))∧Below w.heap.size w w':=by
 subst hn;have HF:=h_ hf;have Qx:=h_ hlo;have Qv:=h_ hhi;have HE:Hid (∀x,xs[k0]? =some x→(qs cmp xs[k0]?)=(cmp x==0)):=fun x hx=>by rw[hx];rfl
 have HN:Hid (xs[k0]? =none→ (qs cmp xs[k0]?)=false):=fun hx=>by rw[hx];rfl
 generalize qs cmp xs[k0]? =res at HE HN ⊢;clear hf hlo hhi;have HY:∀w',Below (w.alloc (.cells (bR.cells y).toArray 66)).heap.size (w.alloc (.cells (bR.cells y).toArray 66)) w'→w'.rangeAt w.heap.size 0 (bR.cells y):=fun w' hb j v hv=>by
  rw[Nat.zero_add,aW hb j,List.getElem?_toArray,hv]
 have QG:=h_ HY;clear HY;go_enter Tryz.func119,Tryz.ntmps119;go_wp2;go_loopw [9,10] (fun si sj wr=>∃i j:Nat,si= .int .i64 i∧sj= .int .i64 j∧i≤ k0∧k0≤ j∧j≤ xs.length∧Hid (Below (w.alloc (.cells (bR.cells y).toArray 66)).heap.size (w.alloc (.cells (bR.cells y).toArray 66)) wr)) (fun si sj _=>(intOf sj).toNat-(intOf si).toNat)
 case atStart=>exact ⟨0,xs.length,rfl,rfl,by omega,FN,by omega,Below.refl _ _⟩
 case round=>
  obtain⟨i,j,rfl,rfl,hik,hkj,hjn,hb⟩:=hrel;by_cases hlt:i< j
  ·obtain⟨m,hm⟩:∃m: Nat,((i:Int)+(j:Int))/2= (m:Int):=⟨(i+j)/2,by omega⟩;have him:i≤ m:=o_;have hmj:m< j:=o_;have hmx:m< xs.length:=o_;have HM:=h_ hm;clear hm;obtain⟨b,o,rfl,hrg⟩:=JP hr hmx;have kU:Below w.heap.size w wr:=((Below.refl w.heap.size w).alloc n_ _).trans (hb.mono (by simp));have hx0:=hrg wr kU;have hy0:=dw (QG wr hb.out);simp only[Nat.zero_add]at hy0;have HX:=h_ hx0;have Uk:=h_ hy0;have qC:=h_ (fun w' hb=>HF.out xs[m] (List.getElem_mem hmx) w' hb);have MX:=h_ (fun h:m< k0=>Qx.out m hmx h);have MT:=h_ (fun h:k0≤ m=>Qv.out m hmx h);generalize Va:xs[m]=x at HX qC MX MT;clear hrg hx0 hy0 Va;go_wp2;rw[HM.out];have hx:=HX.out;have hy:=Uk.out;go_still_tail 6,k_
   change wpList _ _ _ _ _ wr.drew
   clear hx hy;go_wp2_with(refine(qC _ kU.drew).mono ?_;rintro e w4 ⟨rfl,hb4⟩)
   ·have hmk:m< k0:=by
     rcases Nat.lt_or_ge m k0 with h|h
     ·exact h
     ·have:=MT.out h;omega
    exact⟨⟨m+1,j,by go_num,rfl,by omega,hkj,hjn,hb.out.drew.trans (hb4.mono hb.out.size)⟩,by simp[intOf];omega⟩
   ·have hmk:k0≤ m:=by
     rcases Nat.lt_or_ge m k0 with h|h
     ·have:=MX.out h;omega
     ·exact h
    exact⟨⟨i,m,rfl,rfl,hik,hmk,by omega,hb.out.drew.trans (hb4.mono hb.out.size)⟩,by simp[intOf];omega⟩
  ·obtain rfl:i= k0:=o_;have kU:Below w.heap.size w wr:=((Below.refl w.heap.size w).alloc n_ _).trans (hb.out.mono (by simp));by_cases hkn:i< xs.length
   ·obtain⟨b,o,rfl,hrg⟩:=JP hr hkn;have hx0:=hrg wr kU;have hy0:=dw (QG wr hb.out);simp only[Nat.zero_add]at hy0;have HX:=h_ hx0;have Uk:=h_ hy0;have qC:=h_ (fun w' hb=>HF.out xs[i] (List.getElem_mem hkn) w' hb);have Bq:=h_ (HE xs[i] (List.getElem?_eq_getElem hkn));have gB:=h_ hrg;generalize Va:xs[i]=x at HX qC Bq gB;clear hrg hx0 hy0 Va HE HN;have MB:decide ((i:Int)<(xs.length:Int))=true:= decide_eq_true o_;go_wp2;go_region_held3 (fun w'=>(w'.cell? ⟨b,o+i* 8,none⟩=some (.int .i64 x.ak)∧w'.cell? ⟨b,o+i* 8+1,none⟩=some (.int .i64 x.aM)∧w'.cell? ⟨b,o+i* 8+2,none⟩=some (.int .i64 x.number)∧w'.cell? ⟨b,o+i* 8+3,none⟩=some (.int .i64 x.answer.e)∧w'.cell? ⟨b,o+i* 8+4,none⟩=some (.int .i64 x.answer.aK)∧w'.cell? ⟨b,o+i* 8+5,none⟩=some (.int .i64 x.answer.aq)∧w'.cell? ⟨b,o+i* 8+6,none⟩=some (.int .i64 x.answer.bW)∧w'.cell? ⟨b,o+i* 8+7,none⟩=some (.int .i64 x.answer.size))∧(w'.cell? ⟨w.heap.size,0,none⟩=some (.int .i64 y.ak)∧w'.cell? ⟨w.heap.size,1,none⟩=some (.int .i64 y.aM)∧w'.cell? ⟨w.heap.size,2,none⟩=some (.int .i64 y.number)∧w'.cell? ⟨w.heap.size,3,none⟩=some (.int .i64 y.answer.e)∧w'.cell? ⟨w.heap.size,4,none⟩=some (.int .i64 y.answer.aK)∧w'.cell? ⟨w.heap.size,5,none⟩=some (.int .i64 y.answer.aq)∧w'.cell? ⟨w.heap.size,6,none⟩=some (.int .i64 y.answer.bW)∧w'.cell? ⟨w.heap.size,7,none⟩=some (.int .i64 y.answer.size))) ((first|exact ⟨HX.out,Uk.out⟩|exact ⟨gm.out,KB.out⟩)) (first|(refine(qC _ (by first|exact kU|exact kU.drew)).mono ?_;rintro e w4 ⟨rfl,hb4⟩;have gm:=h_ (gB w4 (kU.drew.trans (hb4.mono kU.size)));have OI:=dw (QG w4 (hb.out.drew.trans (hb4.mono hb.out.size)));simp only[Nat.zero_add]at OI;have KB:=h_ OI;clear OI));go_wp2;go_returns;exact⟨by rw[Bq.out];rfl,kU.drew.trans (hb4.mono kU.size)⟩
   ·have pn:=h_ (HN (List.getElem?_eq_none o_));have MB:decide ((i:Int)<(xs.length:Int))=false:= decide_eq_false o_;go_wp2;go_quiet (fail);go_wp2;go_returns;exact⟨by rw[pn.out];rfl,below_drewN kU _⟩
end Go.Proofs.YtfdmhpohfjbpfaaGreat
namespace Go.Proofs.YtfdmhpohfjbpfaaGreat
open Go.ChangeShapes Go.WideShapes Go.ChangeAt Go.RowKit Go.Maps
set_option maxRecDepth 100000
set_option maxHeartbeats 16000000
def qw:jJ Tryz.prog 158 Int where
 keyed:=Keyed.of_law (deep_law_laid k_ (m:=20) o_ (of_decide_eq_true k_) k_ k_)
 enc n:= .agg #[.int .i64 n]
 kl n:= .string (keyBytes [.int .i64 n])
 good n:=(Lit.int .i64 n).wf=true
 key n h:=sV Tryz.underlying158 rfl rfl rfl k_ k_ k_ Tryz.underlying3 ⟨Tryz.prog.types.size-1,by kernel_rfl⟩ h
 inj _ _ h:=by simpa using h
def CB(l:List bR)(k:Nat)(f:Int→ Option Int):Prop:=
 ∀id,(f id=none∧ ∀j (h:j< l.length),j<k→ l[j].ak≠id)∨∃j,∃h: j<l.length,j<k∧ l[j].ak=id∧ f id=some (j:Int)
theorem CB.zero(l:List bR):CB l 0 (fun _=>none):=fun id=> .inl ⟨rfl,fun j _ hj=>by omega⟩
theorem CB.next{l:List bR}{k:Nat}{f:Int→ Option Int}(h:CB l k f)(hk:k< l.length):CB l (k+1) (VM f l[k].ak (k:Int)):=fun id=>by
 unfold VM;by_cases e:id= l[k].ak
 ·rw[if_pos e];exact .inr ⟨k,hk,by omega,e.symm,rfl⟩
 ·rw[if_neg e];rcases h id with⟨h1,h2⟩|⟨j,hj,h1,h2,h3⟩
  ·refine .inl ⟨h1,fun j hj hjk=> ?_⟩;by_cases e2:j= k
   ·subst e2;exact fun h=>e h.symm
   ·exact h2 j hj o_
  ·exact .inr ⟨j,hj,by omega,h2,h3⟩
theorem CB.find{l:List bR}{f:Int→ Option Int}(h:CB l l.length f)(hs:eV l=true)(id:Int):
 (f id=none∧ fN bR.ak l id=none)∨∃j,∃hj: j<l.length,f id=some (j:Int)∧fN bR.ak l id=some l[j]∧l[j].ak=id:= by
 rcases h id with⟨h1,h2⟩|⟨j,hj,h1,h2,h3⟩
 ·exact .inl ⟨h1,tR fun j hj=>h2 j hj hj⟩
 ·exact .inr ⟨j,hj,h3,zN (ck.1 hs).2 hj h2,h2⟩
theorem ic{l:List bR}(hs:eV l=true):∀d∈ l,1≤d.ak∧ d.ak≤8∧ 1≤d.aM∧ 1≤d.number:= fun d h=>by
 have h1:=(ck.1 hs).1 d h;have h2:=h1.2;unfold rW at h2;simp only[Bool.and_eq_true,decide_eq_true_eq]at h2;omega
theorem zQ{s:St}{c:cR}(h:dI c):fF s c=(s,bS.err 2):=by unfold fF;rw[if_pos h]
theorem IB{s:St}{c:cR}(h:¬dI c)(hf:fN bR.ak s.aP c.ak=none):fF s c=gf s c:=by unfold fF;rw[if_neg h,hf]
theorem IC{s:St}{c:cR}{d:bR}(h:¬dI c)(hf:fN bR.ak s.aP c.ak=some d)(ho:iU c d):fF s c=(s,bS.err 150):=by unfold fF;rw[if_neg h,hf];simp only;rw[if_pos ho]
theorem Fz{s:St}{c:cR}{d:bR}(h:¬dI c)(hf:fN bR.ak s.aP c.ak=some d)(ho:¬iU c d)(ht:ia c d):fF s c=(s,d.answer):=by unfold fF;rw[if_neg h,hf];simp only;rw[if_neg ho,if_pos ht]
theorem Fy{s:St}{c:cR}{d:bR}(h:¬dI c)(hf:fN bR.ak s.aP c.ak=some d)(ho:¬iU c d)(ht:¬ia c d):fF s c=gf s c:=by unfold fF;rw[if_neg h,hf];simp only;rw[if_neg ho,if_neg ht]
end Go.Proofs.YtfdmhpohfjbpfaaGreat
namespace Go.Proofs.YtfdmhpohfjbpfaaGreat
open Go.ChangeShapes Go.WideShapes Go.ChangeAt Go.RowKit
set_option maxRecDepth 100000
set_option maxHeartbeats 16000000
theorem Gy{w:World}{b o:Nat}{xs ys:List Value}(h:w.rangeAt b o xs)(h2:w.rangeAt b (o+xs.length) ys):w.rangeAt b o (xs++ys):=fun j v hj=>by
 by_cases h1:j< xs.length
 ·rw[List.getElem?_append_left h1]at hj;exact h j v hj
 ·rw[List.getElem?_append_right o_]at hj;have:=h2 _ v hj;rw[show o+xs.length+ (j-xs.length)=o+ j by omega]at this;exact this
theorem Em{w:World}{b o:Nat}{xs:List Value}(k:Nat)(h:w.rangeAt b o xs):w.rangeAt b o (xs.take k):=fun j v hj=>by
 have hk:j< k:=by have:=(List.getElem?_eq_some_iff.1 hj).1;rw[List.length_take]at this;omega
 rw[List.getElem?_take,if_pos hk]at hj;exact h j v hj
theorem ve{w:World}{b o:Nat}{xs:List Value}(k:Nat)(h:w.rangeAt b o xs):w.rangeAt b (o+k) (xs.drop k):=fun j v hj=>by
 rw[List.getElem?_drop]at hj;have:=h _ v hj;rw[←Nat.add_assoc]at this;exact this
theorem Fq{α:Type}(xs:List α)(i:Nat):xs.eraseIdx i=xs.take i++xs.drop (i+1):=List.eraseIdx_eq_take_drop_succ xs i
theorem wB(xs:List aV)(B g n c i:Nat)(w:World)(hn:xs.length= n)(hnc:n≤ c)(hl:c≤ maxLen)(hm:dM aJ w B g 0 xs)(hi:i< n):
 Calls Tryz.prog 125 (uk (some ⟨g,0,none⟩) n c i ((i:Int)+1)) w (zx g w (some ⟨g,0,none⟩) c (xs.eraseIdx i)):=by
 subst hn;have hl2:=cX hl;have hlm:xs.length≤ maxLen:=Nat.le_trans hnc hl;have Tb:(xs.eraseIdx i).length=xs.length- 1:=List.length_eraseIdx_of_lt hi;obtain⟨j,hj⟩:∃j: Nat,j=i+ 1:=⟨_,rfl⟩;rw[show((i:Int)+1)=((j:Nat):Int) by omega];obtain⟨news,hnews⟩:∃news,news=(xs.drop j).flatMap aJ.cells:=⟨_,rfl⟩;have hlen:news.length= (xs.length-j)*7:= by rw[hnews,aJ.length,List.length_drop];rfl
 have hall:(xs.flatMap aJ.cells).drop (j*7)=news:= by rw[hnews];exact mz aJ.len xs j
 have Og:(xs.flatMap aJ.cells).take (i*7)=(xs.take i).flatMap aJ.cells:=kF aJ.len xs i;have hr1:w.rangeAt g (j*7) news:=by
  have:=ve (j*7) hm.2.1;rw[hall,Nat.zero_add]at this;exact this
 have Hg:w.rangeAt g 0 ((xs.take i).flatMap aJ.cells):=by rw[←Og];exact Em _ hm.2.1
 have Ae:w.there g 0 (xs.length*7):=hm.2.2;obtain⟨A,hA,hsrc⟩:∃A: Addr,(if c=j then some (⟨g,0,none⟩:Addr)else some ⟨g,j*7,none⟩)=some A∧Hid (∀t u,news[t]? =some u→w.drew.cell? (A.add t)=some u):=by
  by_cases h:c= j
  ·refine⟨⟨g,0,none⟩,by simp[h],fun t u hu=> ?_⟩;have h0:news.length= 0:=by rw[hlen];omega
   rw[List.length_eq_zero_iff.1 h0]at hu;simp at hu
  ·refine⟨⟨g,j*7,none⟩,by simp[h],fun t u hu=> ?_⟩;have:=hr1 t u hu;by_cases ht:t= 0
   ·subst ht;simpa[Addr.add]using this
   ·simpa[Addr.add,ht]using this
 have s1:Hid (news.length=(xs.length-j)*7):=hlen;have s2:Hid (∀u∈ news,u.oneCell'=true):=by rw[hnews];exact aJ.rI _
 have s3:Hid (∀t,t<news.length→ (w.drew.cell? ⟨g,0+i* 7+t,none⟩).isSome=true∧ w.drew.frozen? ⟨g,0+i* 7+t,none⟩=false):=by
  intro t ht;rw[hlen]at ht;have:=Ae (i*7+ t) o_;rw[←Nat.add_assoc]at this;exact this
 obtain⟨W1,hW1⟩:∃W1,W1=w.drew.setCells g (0+i* 7) news:=⟨_,rfl⟩;have YL:w.drew.there g 0 (xs.length*7):=Ae;have hW:Hid (W1=w.drew.setCells g (0+i* 7) news):=hW1;have YM:w.drew.there g (0+i* 7) news.length:=fun t ht=>s3.out t ht
 have Qc:Hid (W1.rangeAt g 0 ((xs.eraseIdx i).flatMap aJ.cells)):=by
  show World.rangeAt _ _ _ _
  rw[hW1,Fq,List.flatMap_append,←hj,←hnews];have hl0:((xs.take i).flatMap aJ.cells).length=i* 7:=by rw[aJ.length,List.length_take,Nat.min_eq_left o_];rfl
  refine Gy (World.rangeAt_setCells_apart (w:=w.drew) Hg _ _ _ (.inr (.inl (by rw[hl0];exact Nat.le_refl _)))) ?_;rw[hl0];exact World.rangeAt_setCells_same w.drew g (0+i* 7) news YM
 have hlast:i+ (xs.length-j)=xs.length- 1:=o_;have hone:xs.length- (i+(xs.length-j))=1:= o_;have QC:Hid (W1.there g ((i+(xs.length-j))*7) ((xs.length-(i+(xs.length-j)))*7)):=by
  show World.there _ _ _ _
  rw[hW1,hone,hlast];refine World.there_setCells (fun t ht=> ?_) _ _ _;have:=YL ((xs.length-1)*7+ t) o_;rw[Nat.zero_add]at this;exact this
 have Dv:Hid (dF g w W1):=by
  show dF _ _ _
  rw[hW1];exact(dF.refl g w).put (fun B hB=>Below.setCells hB _ _ ((Below.refl B w).drew)) (fun k hk=>dh g _ _ w.drew k hk)
 have CA:=h_ Tb;clear hlast hone hW1 YL YM Ae Hg hr1 Og hall hlen Tb hnews hm;generalize xs.eraseIdx i=res at Qc CA ⊢;obtain⟨i0,hi0,hz1⟩:∃i0,Tryz.prog.info? 59=some i0∧i0.size= 7:=by
  obtain⟨i0,z,h1,h2,h3,_⟩:=aJ.parts;exact⟨i0,h1,h3⟩
 go_enter Tryz.func125,Tryz.ntmps125;have hic:i≤ c:=o_;have hjc:j≤ c:=o_;have hjn:j≤ xs.length:=o_;have hij:i< j:=o_;have afO:((i:Int)==(j:Int))=false:= by rw[beq_eq_false_iff_ne];omega
 have HJ:=h_ hj;clear hj;go_wp2_with fail;go_region_law (refine step_append_room rfl (.tmp 22) (.tmp 25) 23 rfl 59 i0 7 Tryz.underlying23 hi0 hz1 g 0 i c (by simp[Act.eval,Act.put]) A (xs.length-j) (c-j) news (by simp[Act.eval,Act.put]) s1.out hsrc.out s2.out o_ s3.out ?_;rw[←hW.out]);go_wp2_with(refine lD aJ Tryz.underlying23 rfl (.tmp 31) rfl g ((i+(xs.length-j))*7) (xs.length-(i+(xs.length-j))) (c-(i+(xs.length-j))) rfl QC.out ?_;intro zs _;obtain⟨W5,hW5⟩:∃W5,W5=W1.setCells g ((i+(xs.length-j))*7) zs:=⟨_,rfl⟩;have nt:=h_ hW5;rw[←hW5];clear hW5);go_returns;have hres:res.length= i+(xs.length-j):=by have:=CA.out;have:=HJ.out;omega
 refine⟨by rw[hres];rfl,?_,?_⟩
 ·have hr:W5.rangeAt g 0 (res.flatMap aJ.cells):=by
   rw[nt.out];refine World.rangeAt_setCells_apart Qc.out _ _ _ (.inr (.inl ?_));rw[aJ.length,hres,Nat.zero_add];exact Nat.le_refl _
  exact .inr ⟨g,0,rfl,fun k hk=>hr k _ (List.getElem?_eq_getElem hk)⟩
 ·rw[nt.out];exact Dv.put (fun B hB=>Below.setCells hB _ _ (Below.refl B W1)) (fun k hk=>dh g _ _ W1 k hk)
theorem tq31 {P:Prop}(h:P:=by
 go_enter Tryz.func124,Tryz.ntmps124;go_wp2
 all_goals(go_returns;exact⟨bZ (by rw[HR.out];simp_all),aH⟩)):P:=h
theorem jg(x:aV)(sh ep le:Int)(gl gs ge:Nat)(w:World)(hc1:w.cell? ⟨gl,0,none⟩=some (.int .i64 le))(hc2:w.cell? ⟨gs,0,none⟩=some (.int .i64 sh))(hc3:w.cell? ⟨ge,0,none⟩=some (.int .i64 ep)):
 Calls Tryz.prog 124 #[x.agg,.pointer (some ⟨gl,0,none⟩),.pointer (some ⟨gs,0,none⟩),.pointer (some ⟨ge,0,none⟩)] w fun e w'=>e= .returned (.bool (gV sh ep le x))∧Below w.heap.size w w':=by
 have Rl:=World.block_lt_of_cell? w _ hc1;have BO:=World.block_lt_of_cell? w _ hc2;have IV:=World.block_lt_of_cell? w _ hc3;simp only at Rl BO IV;obtain⟨x0,x1,x2,x3,x4,x5,x6⟩:=x;have HR:Hid (gV sh ep le ⟨x0,x1,x2,x3,x4,x5,x6⟩=decide (x0=le∧ x2=sh∧ x3=ep)):=rfl;by_cases e1:x0= le
 ·exact tq31
 ·exact tq31
theorem gQ(args:Array Value)(w:World):(callFunc 124 args).run Tryz.prog w= .ok (.enter 124 args) w:=k_
structure lf(a:Option Addr)(w w':World):Prop where
 os:w'.os= w.os
 tape:w'.tape= w.tape
 output:w'.output= w.output
 size:w.heap.size≤ w'.heap.size
 block:∀k,k<w.heap.size→ (∀o s,a≠some ⟨k,o,s⟩)→w'.heap[k]? =w.heap[k]?
theorem lf.OW{a:Option Addr}{w w':World}(h:Below w.heap.size w w'):lf a w w':=⟨h.os,h.tape,h.output,h.size,fun k hk _=>h.block k hk⟩
theorem lf.OX{a:Option Addr}{n c B:Nat}{w w':World}(h:Below B w w')(hg:w.grownBy w' (Value.slice a n c).ownBlock):lf a w w':=⟨h.os,h.tape,h.output,h.size,fun k hk hne=>hg.block k hk (by
 cases a with|none=> simp[Value.ownBlock]|some x=>
  obtain⟨b,o,s⟩:=x;simp only[Value.ownBlock,ne_eq,Option.some.injEq]
  intro e;exact hne o s (by rw[e]))⟩
def pF(B:Nat)(w:World)(a:Option Addr)(xs:List bR)(e:Ending)(w':World):Prop:=
 ∃a' c',e= .returned (.slice a' xs.length c')∧w'.ownsRow B 66 (ay).size (.slice a' xs.length c') xs.length (xs.flatMap (ay).cells)∧Below B w w'∧lf a w w'
theorem BR(xs:List bR)(x:bR)(n c:Nat)(a:Option Addr)(vb:Nat)(te:TypeId)(B:Nat)(w:World)(hn:xs.length= n)(di:Can w B 66 (ay).size a n c (xs.flatMap (ay).cells))(hv:w.heap[vb]? =some (.cells ((ay).cells x).toArray te (0,0)))(hby:(n+1)*(ay).bytes≤140737488355328)(hB:B≤ w.heap.size):
 Calls Tryz.prog 121 (vsis a n c n (some ⟨vb,0,none⟩) 1 1) w (pF B w a (xs++[x])):=by
 have hle:=di.le;have hmx:=di.2.1;have hsm:=cX hmx;have Rc:=(ay).oJ;have hcc:c≤ 9223372036854775807:=by
  rcases di.2.2 with⟨h,_⟩|h
  ·omega
  ·obtain⟨_,_,hv,_,h2,_⟩:=eN h;simp only[Value.slice.injEq]at hv;have:=cX h2;omega
 have YC:Row w (some ⟨vb,0,none⟩) ((ay).cells x):=by have:=Row.Ay hv;simpa using this
 have HC:=h_ di;have HV:=h_ YC;have XZ:=(ay).one x;have H1:=h_ XZ;have HL:=h_ ((ay).len x);clear di YC hv XZ;go_enter Tryz.func121,Tryz.ntmps121;go_wp2_with(at_builtin;refine dU ((ay).elem Tryz.underlying25) rfl (.tmp 23) (.tmp 24) rfl B a n c _ rfl HC.out (some ⟨vb,0,none⟩) 1 1 ((ay).cells x) rfl (by rw[HL.out,Nat.one_mul]) HV.out H1.out hby hB ?_;intro a' c' w' Yb aca hb' hown')
 all_goals
  go_returns;subst hn;refine⟨a',c',by rw[List.length_append];rfl,?_,hb',.OX hb' aca⟩;have:=hown'.1 o_;rw[List.length_append,List.flatMap_append,List.flatMap_cons,List.flatMap_nil,List.append_nil];exact this
theorem tq34 {P:Prop}(h:P:=by
 have hlt:=(List.getElem?_eq_some_iff.1 hj).1;simp only[World.cell?,hg,Nat.zero_add,Option.isSome_none,Bool.false_eq_true,if_false]
 rw[List.getElem?_toArray,List.getElem?_append_left hlt,hj]):P:=h
theorem tq35 {P:Prop}(h:P:=by
 simp only[World.cell?,hv,Nat.zero_add,Option.isSome_none,Bool.false_eq_true,if_false]
 rw[List.getElem?_toArray,hj]):P:=h
theorem Ag(xs:List bR)(x:bR)(i n c g:Nat)(vb:Nat)(te:TypeId)(B:Nat)(w:World)(hn:xs.length= n)(hi:i< n)(hc:c< n+1)(hown:w.ownsRow B 66 (ay).size (.slice (some ⟨g,0,none⟩) n c) n (xs.flatMap (ay).cells))(hv:w.heap[vb]? =some (.cells ((ay).cells x).toArray te (0,0)))(hby:(n+1)*(ay).bytes≤140737488355328)(hB:B≤ w.heap.size):
 Calls Tryz.prog 121 (vsis (some ⟨g,0,none⟩) n c i (some ⟨vb,0,none⟩) 1 1) w (pF B w (some ⟨g,0,none⟩) (xs.take i++x:: xs.drop i)):=by
 obtain⟨hBg,hnc,hcm,UE,D,hg,Lx⟩:=sw hown;have Rc:=(ay).oJ;have hsp:=(ay).pos;have J0:n+ 1≤140737488355328:= Nat.le_trans (Nat.le_mul_of_pos_right _ Rc) hby;have DW:xs.flatMap (ay).cells=(xs.take i).flatMap (ay).cells++(xs.drop i).flatMap (ay).cells:=by rw[←List.flatMap_append,List.take_append_drop]
 have hal:((xs.take i).flatMap (ay).cells).length=i* (ay).size:=by rw[(ay).length,List.length_take];congr 1;omega
 have hbl:((xs.drop i).flatMap (ay).cells).length=(n-i)*(ay).size:=by rw[(ay).length,List.length_drop,hn]
 have hxl:=(ay).len x;have IH:=(ay).one x;have h1b:=(ay).rI (xs.drop i);have hrl:(xs.take i++x:: xs.drop i).length=n+ 1:=by simp;omega
 have hrc:=uW xs x i;generalize hR:(xs.take i++x:: xs.drop i)=res at hrl hrc ⊢;generalize pz:(xs.take i).flatMap (ay).cells=A at DW hal hrc;generalize Bn:(xs.drop i).flatMap (ay).cells=Bs at DW hbl h1b hrc;generalize LH:(ay).cells x=X at hv hxl IH hrc;rw[DW]at hg;have lv:∀j u,(A++Bs)[j]? =some u→w.cell? ⟨g,0+j,none⟩=some u:=fun j u hj=>by
  exact tq34
 have hgl:g< w.heap.size:=(Array.getElem?_eq_some_iff.1 hg).1;have hvl:vb< w.heap.size:=(Array.getElem?_eq_some_iff.1 hv).1;have OG:∀j u,X[j]? =some u→w.cell? ⟨vb,0+j,none⟩=some u:=fun j u hj=>by
  exact tq35
 obtain⟨w1,g1,c1,Z,hrun,hg1,hc1,Ob,IU,cC,hb1,hs1⟩:=o9 ay Tryz.underlying25 Tryz.underlying3 25 w g 0 i c (n+1- i) A hal (fun j u hj=>lv j u (by rw[List.getElem?_append_left (List.getElem?_eq_some_iff.1 hj).1];exact hj)) o_ o_ (by rw[show i+(n+1- i)=n+ 1 by omega];exact hby);have hkk:(n:Int)+1- (i:Int)=((n+1- i:Nat):Int):=o_;rw[←hkk,show i+(n+1- i)=n+ 1 by omega]at hrun;rw[show i+(n+1- i)=n+ 1 by omega]at hc1;have hZl:Z.length+ i*(ay).size=c1* (ay).size:=by rw[List.length_append,hal]at cC;omega
 have hZ1:(n+1)*(ay).size≤c1* (ay).size:=Nat.mul_le_mul_right _ hc1;have hni:(n+1)*(ay).size=i* (ay).size+(ay).size+(n-i)*(ay).size:=by rw[←Nat.succ_mul,←Nat.add_mul];congr 1;omega
 have hp1:A++ Z=A++ (Z.take (ay).size++Z.drop (ay).size):=by rw[List.take_append_drop]
 rw[hp1]at IU;have hp2:Z.drop (ay).size=(Z.drop (ay).size).take ((n-i)*(ay).size)++(Z.drop (ay).size).drop ((n-i)*(ay).size):=by rw[List.take_append_drop]
 have UH:(Z.take (ay).size).length=X.length:= by rw[List.length_take,hxl];omega
 have UI:((Z.drop (ay).size).take ((n-i)*(ay).size)).length=Bs.length:= by rw[List.length_take,List.length_drop,hbl];omega
 have UJ:((Z.drop (ay).size).drop ((n-i)*(ay).size)).length+(n+1)*(ay).size=c1* (ay).size:=by rw[List.length_drop,List.length_drop];omega
 rw[hp2]at IU;generalize Z.take (ay).size=M1 at IU UH;generalize(Z.drop (ay).size).take ((n-i)*(ay).size)=M2 at IU UI;generalize(Z.drop (ay).size).drop ((n-i)*(ay).size)=R2 at IU UJ;have X4:(A++X).length=(i+1)*(ay).size:=by rw[List.length_append,hal,hxl,Nat.succ_mul]
 have Yc:=cX Ob;have UQ:=cX hcm;have RUN:=h_ hrun;have HH1:=h_ IU;have QE:=h_ (fun j u hj=>((hb1.cell (p:=⟨vb,0+j,none⟩) hvl).trans (OG j u hj)));have Qq:=h_ (fun j u hj=>((hb1.cell (p:=⟨g,0+j,none⟩) hgl).trans (lv j u hj)));have hgg:g≠ g1:=o_;have TT:=h_ UH;have TU:=h_ UI;have TC:=h_ IH;have TB:=h_ h1b;have vN:=h_ hal;have Uj:=h_ hxl;have TH:=h_ hbl;have HAX:=h_ X4;have Ul:=h_ UJ;have Kv:=h_ hrc;have Bt:=h_ hrl;clear hp1 hp2 cC lv OG hrun hkk IU hg hv hown DW pz Bn LH hR UH UI IH h1b hal hxl hbl X4 hZl hZ1 hni UJ hrc hrl UE Lx;have hg1':=h_ hg1;clear hg1;have abY:¬c1= i:=o_;have Wn:¬c= i:=o_;have hin:¬(i:Int)=(n:Int):=o_;have abZ:¬c1= i+1:= o_;have hw1:IntKind.i64.wrap ((i:Int)+1)=(i:Int)+1:= IntWalk.i64_in _ ⟨by omega,by omega⟩;have hb0:(0:Int)≤(i:Int)+1:= o_;have htn:((i:Int)+1).toNat=i+ 1:=o_;have hb3:(i:Int)≤(n:Int):=o_;have hb4:i≤ n:=o_;go_enter Tryz.func121,Tryz.ntmps121;go_wp2_with(first|(at_builtin;refine Lib.wpList_append_run _ rfl (.tmp 34) (.tmp 39) _ _ rfl _ _ rfl rfl _ _ RUN.out ?_)|(refine ey ay Tryz.underlying25 rfl (.tmp 43) (.tmp 44) rfl g1 (i*(ay).size) A M1 (M2++R2) X 66 HH1.out vN.out TT.out TC.out (n+1- i) (c1-i) 1 1 1 ⟨vb,0,none⟩ (Nat.min_eq_left o_) (by rw[Uj.out,Nat.one_mul]) (fun j u hj=>by rw[Addr.add_mid];exact QE.out j u hj) rfl rfl ?_;intro w2 Yi hb2 py hs2;have Xb:=h_ Yi;have nO:=h_ hb2;have EJ:=h_ py;clear Yi hb2 py));go_still_tail 8,k_
 change wpList _ _ _ _ _ w2.drew
 have hd2:Below w.heap.size w2 w2.drew:=b_.drew;have Xc:Hid (w2.drew.heap[g1]? =some (.cells (A++(X++(M2++R2))).toArray 66 (0,0))):=Xb.out;have zk:Hid (∀j u,(A++Bs)[j]? =some u→w2.drew.cell? ⟨g,0+j,none⟩=some u):=fun j u hj=>by
  have:w2.drew.cell? ⟨g,0+j,none⟩=w1.cell? ⟨g,0+j,none⟩:=World.cell?_of_block (w:=w1) (EJ g hgg);rw[this];exact Qq.out j u hj
 generalize w2.drew=w3 at hd2 Xc zk ⊢;clear Xb EJ
 refine ey ay Tryz.underlying25 rfl (.tmp 50) (.tmp 53) rfl g1 ((i+1)*(ay).size) (A++X) M2 R2 Bs 66 (by rw[List.append_assoc];exact Xc.out) HAX.out TU.out TB.out (n-i) (c1-(i+1)) (n-i) (c-i) (n-i) ⟨g,i*(ay).size,none⟩ (Nat.min_self _) TH.out (fun j u hj=>by
  rw[Addr.add_mid];have:=zk.out (i*(ay).size+j) u (by rw[List.getElem?_append_right (by rw[vN.out];omega),vN.out,Nat.add_sub_cancel_left];exact hj)
  rw[Nat.zero_add]at this;exact this) (by simp[Act.eval];first|rfl| omega) rfl ?_
 intro w4 Oj hb4 Qm hs4;have TN:=h_ Oj;have og:=h_ hb4;clear Oj hb4 Qm;go_wp2;go_returns;have hfin:w4.heap[g1]? =some (.cells ((A++(X++Bs))++R2).toArray 66 (0,0)):=by rw[TN.out];congr 3;simp
 have hres:(A++(X++Bs)).length=(n+1)*(ay).size:=by rw[←Kv.out,(ay).length,Bt.out]
 refine⟨some ⟨g1,0,none⟩,c1,by rw[Bt.out];rfl,?_,?_⟩
 ·rw[Bt.out,Kv.out];exact mC (D:=R2) (by rw[hg1'.out];exact hB) hc1 Ob hres hfin (by rw[List.length_append,hres];have:=Ul.out;omega)
 ·have q1:Below B w w2:=(hb1.mono hB).trans (nO B (by rw[hg1'.out];exact hB));have q2:Below w.heap.size w w2:=hb1.trans (nO _ (by rw[hg1'.out];exact Nat.le_refl _));exact⟨(q1.trans (hd2.mono hB)).trans (og B (by rw[hg1'.out];exact hB)),.OW ((q2.trans hd2).trans (og _ (by rw[hg1'.out];exact Nat.le_refl _)))⟩
set_option maxRecDepth 100000 in
theorem yo(xs:List bR)(x:bR)(i n c g:Nat)(vb:Nat)(te:TypeId)(B:Nat)(w:World)(hn:xs.length= n)(hi:i< n)(hc:n+ 1≤c)(hown:w.ownsRow B 66 (ay).size (.slice (some ⟨g,0,none⟩) n c) n (xs.flatMap (ay).cells))(hv:w.heap[vb]? =some (.cells ((ay).cells x).toArray te (0,0)))(hne:vb≠ g)(hby:(n+1)*(ay).bytes≤140737488355328):
 Calls Tryz.prog 121 (vsis (some ⟨g,0,none⟩) n c i (some ⟨vb,0,none⟩) 1 1) w (pF B w (some ⟨g,0,none⟩) (xs.take i++x:: xs.drop i)):=by
 obtain⟨hBg,hnc,hcm,UE,D,hg,Lx⟩:=sw hown;have Rc:=(ay).oJ;have hsp:=(ay).pos;have J0:n+ 1≤140737488355328:= Nat.le_trans (Nat.le_mul_of_pos_right _ Rc) hby;have DW:xs.flatMap (ay).cells=(xs.take i).flatMap (ay).cells++(xs.drop i).flatMap (ay).cells:=by rw[←List.flatMap_append,List.take_append_drop]
 have hal:((xs.take i).flatMap (ay).cells).length=i* (ay).size:=by rw[(ay).length,List.length_take];congr 1;omega
 have hbl:((xs.drop i).flatMap (ay).cells).length=(n-i)*(ay).size:=by rw[(ay).length,List.length_drop,hn]
 have hxl:=(ay).len x;have IH:=(ay).one x;have h1b:=(ay).rI (xs.drop i);have hrl:(xs.take i++x:: xs.drop i).length=n+ 1:=by simp;omega
 have hrc:=uW xs x i
 have hov:=fun (o lb cb:Nat)=>AE w vb g o 1 1 lb cb te 66 _ _ hne hv hg (by
  rw[List.size_toArray,Lx];have:=Nat.mul_pos (show 0<c by omega) hsp
  omega)
 generalize hR:(xs.take i++x:: xs.drop i)=res at hrl hrc ⊢;generalize pz:(xs.take i).flatMap (ay).cells=A at DW hal hrc;generalize Bn:(xs.drop i).flatMap (ay).cells=Bs at DW hbl h1b hrc;generalize LH:(ay).cells x=X at hv hxl IH hrc;rw[DW]at hg Lx;have hvl:vb< w.heap.size:=(Array.getElem?_eq_some_iff.1 hv).1;have OG:∀j u,X[j]? =some u→w.cell? ⟨vb,0+j,none⟩=some u:=fun j u hj=>by
  exact tq35
 have lv:∀j u,(A++Bs)[j]? =some u→w.cell? ⟨g,0+j,none⟩=some u:=fun j u hj=>by
  exact tq34
 have hcs:=Nat.mul_le_mul_right (ay).size hc;have hni:(n+1)*(ay).size=i* (ay).size+(ay).size+(n-i)*(ay).size:=by rw[←Nat.succ_mul,←Nat.add_mul];congr 1;omega
 have hi1:(i+1)*(ay).size=i* (ay).size+(ay).size:=Nat.succ_mul _ _;have hT:Bs++ D=(Bs++D).take (ay).size++(((Bs++D).drop (ay).size).take ((n-i)*(ay).size)++((Bs++D).drop (ay).size).drop ((n-i)*(ay).size)):=by rw[List.take_append_drop,List.take_append_drop]
 have hTl:(Bs++D).length+i* (ay).size=c* (ay).size:=by rw[List.length_append,List.length_append,hal]at Lx;rw[List.length_append];omega
 have Rb:((Bs++D).take (ay).size).length=X.length:= by rw[List.length_take,hxl];omega
 have UF:(((Bs++D).drop (ay).size).take ((n-i)*(ay).size)).length=Bs.length:= by rw[List.length_take,List.length_drop,hbl];omega
 have UG:(((Bs++D).drop (ay).size).drop ((n-i)*(ay).size)).length+(n+1)*(ay).size=c* (ay).size:=by rw[List.length_drop,List.length_drop];omega
 rw[List.append_assoc,hT]at hg;generalize(Bs++D).take (ay).size=M1 at hg Rb;generalize((Bs++D).drop (ay).size).take ((n-i)*(ay).size)=M2 at hg UF;generalize((Bs++D).drop (ay).size).drop ((n-i)*(ay).size)=R2 at hg UG;have X3:(A++M1).length=(i+1)*(ay).size:=by rw[List.length_append,hal,Rb,hxl,Nat.succ_mul]
 have UQ:=cX hcm;have HG:=h_ hg;have QE:=h_ OG;have Qq:=h_ lv;have TT:=h_ Rb;have TU:=h_ UF;have TC:=h_ IH;have TB:=h_ h1b;have vN:=h_ hal;have Uj:=h_ hxl;have TH:=h_ hbl;have HAM:=h_ X3;have HMC:=h_ UG;have Kv:=h_ hrc;have Bt:=h_ hrl;clear hT hTl lv OG hg hv hown DW pz Bn LH hR Rb UF IH h1b hal hxl hbl X3 hni hi1 hcs UG hrc hrl UE Lx;have Wn:¬c= i:=o_;have hin:¬(i:Int)=(n:Int):=o_;have hcj:¬c= i+1:= o_;have hw1:IntKind.i64.wrap ((i:Int)+1)=(i:Int)+1:= IntWalk.i64_in _ ⟨by omega,by omega⟩;have hb0:(0:Int)≤(i:Int)+1:= o_;have htn:((i:Int)+1).toNat=i+ 1:=o_;have hb3:(i:Int)≤(n:Int):=o_;have hb4:i≤ n:=o_;have cv:(i:Int)≤(n:Int)+1:= o_;have df:i≤ n+1:= o_;go_enter Tryz.func121,Tryz.ntmps121;go_wp2_with(simp only[hov]);go_still_tail 8,k_
 change wpList _ _ _ _ _ w.drew
 have hd2:Below g w w.drew:=b_.drew;have HH0:Hid (∀k: Nat,w.drew.heap[k]? =w.heap[k]?):=fun (k:Nat)=>(rfl:w.drew.heap[k]? =w.heap[k]?)
 have EH:Hid (w.drew.heap[g]? =some (.cells (A++(M1++(M2++R2))).toArray 66 (0,0))):=HG.out;have zk:Hid (∀j u,(A++Bs)[j]? =some u→w.drew.cell? ⟨g,0+j,none⟩=some u):=Qq.out;have Nh:Hid (∀j u,X[j]? =some u→w.drew.cell? ⟨vb,0+j,none⟩=some u):=QE.out;clear hov HG Qq QE;generalize w.drew=w3 at hd2 EH zk Nh HH0 ⊢
 refine ey ay Tryz.underlying25 rfl (.tmp 73) (.tmp 76) rfl g ((i+1)*(ay).size) (A++M1) M2 R2 Bs 66 (by rw[List.append_assoc];exact EH.out) HAM.out TU.out TB.out (n-i) (c-(i+1)) (n+1- i) (c-i) (n-i) ⟨g,i*(ay).size,none⟩ (Nat.min_eq_right o_) TH.out (fun j u hj=>by
  rw[Addr.add_mid];have:=zk.out (i*(ay).size+j) u (by rw[List.getElem?_append_right (by rw[vN.out];omega),vN.out,Nat.add_sub_cancel_left];exact hj)
  rw[Nat.zero_add]at this;exact this) (by simp[Act.eval];first|rfl| omega) (by simp[Act.eval];first|rfl| omega) ?_
 intro w4 Oj hb4 Qm hs4;have TN:Hid (w4.heap[g]? =some (.cells (A++(M1++(Bs++R2))).toArray 66 (0,0))):=by show _=_;rw[Oj,List.append_assoc]
 have og:=h_ hb4;have Uh:Hid (∀j u,X[j]? =some u→w4.cell? ⟨vb,0+j,none⟩=some u):=fun j u hj=>by
  have:w4.cell? ⟨vb,0+j,none⟩=w3.cell? ⟨vb,0+j,none⟩:=World.cell?_of_block (w:=w3) (Qm vb hne);rw[this];exact Nh.out j u hj
 have Dw:=h_ Qm;clear Oj hb4 Qm;go_wp2_with(refine ey ay Tryz.underlying25 rfl (.tmp 80) (.tmp 81) rfl g (i*(ay).size) A M1 (Bs++R2) X 66 TN.out vN.out TT.out TC.out (n+1- i) (c-i) 1 1 1 ⟨vb,0,none⟩ (Nat.min_eq_left o_) (by rw[Uj.out,Nat.one_mul]) (fun j u hj=>by rw[Addr.add_mid];exact Uh.out j u hj) rfl rfl ?_;intro w5 Yj cv Z1 hs5;have HH5:=h_ Yj;have kO:=h_ cv;have JG:=h_ Z1;clear Yj cv Z1);go_returns;have hfin:w5.heap[g]? =some (.cells ((A++(X++Bs))++R2).toArray 66 (0,0)):=by rw[HH5.out];congr 3;simp
 have hres:(A++(X++Bs)).length=(n+1)*(ay).size:=by rw[←Kv.out,(ay).length,Bt.out]
 refine⟨some ⟨g,0,none⟩,c,by rw[Bt.out];rfl,?_,?_⟩
 ·rw[Bt.out,Kv.out];exact mC (D:=R2) hBg hc hcm hres hfin (by rw[List.length_append,hres];have:=HMC.out;omega)
 ·have q1:Below B w w5:=((hd2.mono hBg).trans (og B hBg)).trans (kO B hBg)
  exact⟨q1,q1.os,q1.tape,q1.output,q1.size,fun k _ hk=>by
   have hkg:k≠ g:=fun e=>hk 0 none (by rw[e])
   rw[JG.out k hkg,Dw.out k hkg,HH0.out k]⟩
def xo(B:Nat)(w:World)(a:Option Addr)(m:Nat)(xs:List bR)(e:Ending)(w':World):Prop:=
 ∃a' c',e= .returned (.slice a' m c')∧w'.ownsRow B 66 (ay).size (.slice a' m c') m (xs.flatMap (ay).cells)∧Below B w w'∧lf a w w'
theorem I4(xs:List bR)(x:bR)(i n c:Nat)(a:Option Addr)(vb:Nat)(te:TypeId)(B:Nat)(w:World)(hn:xs.length= n)(hi:i≤ n)(di:Can w B 66 (ay).size a n c (xs.flatMap (ay).cells))(hown:0< n→w.ownsRow B 66 (ay).size (.slice a n c) n (xs.flatMap (ay).cells))(hv:w.heap[vb]? =some (.cells ((ay).cells x).toArray te (0,0)))(hne:∀b o s,a=some ⟨b,o,s⟩→vb≠ b)(hby:(n+1)*(ay).bytes≤140737488355328)(hB:B≤ w.heap.size):
 Calls Tryz.prog 121 (vsis a n c i (some ⟨vb,0,none⟩) 1 1) w (xo B w a (n+1) (xs.take i++x:: xs.drop i)):=by
 have hlen:(xs.take i++x:: xs.drop i).length=n+ 1:=by simp;omega
 have fin:∀e w',pF B w a (xs.take i++x:: xs.drop i) e w'→xo B w a (n+1) (xs.take i++x:: xs.drop i) e w':=fun e w' ⟨a',c',h1,h2,h3⟩=>by
  rw[hlen]at h1 h2;exact⟨a',c',h1,h2,h3⟩
 refine Calls.mono ?_ fin;clear fin;by_cases h:i= n
 ·subst h;have:=BR xs x i c a vb te B w hn di hv hby hB;rw[List.take_of_length_le o_,List.drop_of_length_le o_];exact this
 ·have ho:=hown o_;obtain⟨g,rfl,hBg,hcm⟩:=iM ho (by intro h0;have:=congrArg List.length h0;rw[(ay).length,List.length_nil,Nat.mul_eq_zero]at this;have:=(ay).pos;omega);by_cases hc:c< n+1
  ·exact Ag xs x i n c g vb te B w hn o_ hc ho hv hby hB
  ·exact yo xs x i n c g vb te B w hn o_ o_ ho hv (hne g 0 none rfl) hby
end Go.Proofs.YtfdmhpohfjbpfaaGreat
