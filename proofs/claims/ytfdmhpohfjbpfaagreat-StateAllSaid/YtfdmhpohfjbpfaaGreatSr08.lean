import Derived.Deep.DeepAppendRoom
import Derived.Deep.Cut
import Derived.WalkSmall
import Derived.IntWalk
import Derived.Test.YtfdmhpohfjbpfaaGreatSr07
set_option linter.unusedVariables false
set_option linter.unusedSimpArgs false
namespace Go.Proofs.YtfdmhpohfjbpfaaGreat
set_option maxHeartbeats 16000000
def Hc:Nat→ Nat→List UInt8
 |0,_=>[]
 |k+ 1,u=>UInt8.ofNat (u/256^ k%256)::Hc k u
def iz(l:List UInt8):Nat:= l.foldl (fun a b=>a* 256+b.toNat) 0
theorem zF:∀k u,(Hc k u).length=k
 |0,_=>rfl
 |k+ 1,u=>by rw[Hc,List.length_cons,zF k u]
theorem zP:∀(l:List UInt8) (a:Nat),l.foldl (fun a b=>a* 256+b.toNat) a=a* 256^l.length+ iz l
 |[],a=>by simp[iz]
 |b:: l,a=>by
  unfold iz;rw[List.foldl_cons,List.foldl_cons,zP l,zP l (0*256+ b.toNat),List.length_cons,Nat.pow_succ,Nat.zero_mul,Nat.zero_add,Nat.add_mul,Nat.mul_assoc,Nat.mul_comm 256];omega
theorem zG(b:UInt8)(l:List UInt8):iz (b::l)=b.toNat* 256^l.length+ iz l:=by
 show(b::l).foldl _ 0=_
 rw[List.foldl_cons,zP,Nat.zero_mul,Nat.zero_add]
theorem lK:∀l: List UInt8,iz l<256^ l.length
 |[]=>by simp[iz]
 |b:: l=>by
  rw[zG,List.length_cons,Nat.pow_succ];have h1:=lK l;have h2:=b.toNat_lt;have h3:b.toNat* 256^l.length≤ 255*256^ l.length:=Nat.mul_le_mul_right _ o_;omega
theorem Ia(l:List UInt8)(b:UInt8):iz (l++[b])=iz l*256+ b.toNat:=by
 unfold iz;rw[List.foldl_append];rfl
theorem JQ:∀k a v,Hc k (a*256^ k+v)=Hc k v
 |0,_,_=>rfl
 |k+ 1,a,v=>by
  have e:a* 256^(k+1)=a* 256*256^ k:=by rw[Nat.pow_succ,Nat.mul_comm (256^k),Nat.mul_assoc]
  rw[Hc,Hc,e,JQ k,Nat.mul_comm (a*256),Nat.mul_add_div (Nat.pow_pos d_),Nat.mul_comm a,Nat.mul_add_mod]
theorem CL:∀l: List UInt8,Hc l.length (iz l)=l
 |[]=>rfl
 |b:: l=>by
  rw[List.length_cons,Hc,zG,JQ,CL l,Nat.mul_comm,Nat.mul_add_div (Nat.pow_pos d_),Nat.div_eq_of_lt (lK l),Nat.add_zero];have h2:=b.toNat_lt;rw[Nat.mod_eq_of_lt o_];simp
def u64(n:Int):Nat:= (n%18446744073709551616).toNat
def i64(u:Nat):Int:= if u<9223372036854775808 then u else u-18446744073709551616
def eo(n:Int):Prop:= -9223372036854775808≤ n∧n< 9223372036854775808
theorem Sl{u:Nat}(h:u< 18446744073709551616):u64 (i64 u)=u:= by
 unfold i64 u64
 split<;>omega
theorem i64_in{u:Nat}(h:u< 18446744073709551616):eo (i64 u):=by
 unfold i64 eo
 split<;>omega
def dV(n:Int):List UInt8:=Hc 8 (u64 n)
def Ar(l:List UInt8):Int:= i64 (iz l)
theorem gP(n:Int):(dV n).length=8:= zF _ _
theorem NG{l:List UInt8}(h:l.length= 8):dV (Ar l)=l:= by
 unfold Ar dV;have h1:=lK l;rw[h]at h1;rw[Sl o_];have:=CL l;rw[h]at this;exact this
theorem RB{l:List UInt8}(h:l.length= 8):eo (Ar l):=by
 have h1:=lK l;rw[h]at h1;exact i64_in o_
def mY(k:Int):UInt8:= UInt8.ofNat (k%256).toNat
def kW(b:UInt8):Int:= if b.toNat<128 then b.toNat else b.toNat-256
theorem Gf(b:UInt8):mY (kW b)=b:= by
 have h:=b.toNat_lt;unfold kW mY;have:((if b.toNat<128 then(b.toNat:Int)else b.toNat-256)%256).toNat=b.toNat:= by split<;>omega
 rw[this];simp
theorem OP(b:UInt8): -128≤ kW b∧kW b<128:= by
 have h:=b.toNat_lt;unfold kW;split<;>omega
def iH(x:Bool):UInt8:= if x then 1 else 0
abbrev kQ(α:Type):=Except Nat (α×Nat)
def cy{α β:Type}(x:kQ α)(f:α→ Nat→kQ β):kQ β:=match x with| .error e=> .error e| .ok (a,q)=>f a q
def qx(k:Nat)(l:List UInt8)(p:Nat):kQ (List UInt8):=if l.length-p< k then .error l.length else .ok ((l.drop p).take k,p+k)
def fX(l:List UInt8)(p:Nat):kQ Int:=cy (qx 8 l p) fun b q=> .ok (Ar b,q)
def il(l:List UInt8)(p:Nat):kQ UInt8:=cy (qx 1 l p) fun b q=> .ok (b.headD 0,q)
def Gg(l:List UInt8)(p:Nat):kQ Int:=cy (il l p) fun b q=> .ok (kW b,q)
def jW(l:List UInt8)(p:Nat):kQ Bool:=cy (il l p) fun b q=>if 1<b.toNat then .error (q-1)else .ok (b.toNat==1,q)
def countP(size:Nat)(l:List UInt8)(p:Nat):kQ Nat:=cy (fX l p) fun n q=>if n<0∨ n>((l.length-q)/size: Nat)then .error p else .ok (n.toNat,q)
def ej{α:Type}(one:List UInt8→Nat→ kQ α):Nat→ List UInt8→Nat→ kQ (List α)
 |0,_,p=> .ok ([],p)
 |n+ 1,l,p=>cy (one l p) fun x q=>cy (ej one n l q) fun xs q=> .ok (x::xs,q)
def rH{α:Type}(size:Nat)(one:List UInt8→Nat→ kQ α)(l:List UInt8)(p:Nat):kQ (List α):=cy (countP size l p) fun n q=>ej one n l q
def lT{α:Type}(zero:α)(one:List UInt8→Nat→ kQ α)(l:List UInt8):α× Nat×Int:=
 if 1048576<l.length then(zero,0,3)
 else match one l 0 with
  | .error f=>(zero,f,50)
  | .ok (x,q)=>if q<l.length then(zero,q,50)else(x,0,0)
def gN{α:Type}(one:List UInt8→Nat→ kQ α)(enc:α→ List UInt8)(good:α→ Prop):Prop:= ∀(l:List UInt8) (p:Nat) (x:α) (q:Nat),p≤l.length→ one l p= .ok (x,q)→p≤ q∧q≤ l.length∧(l.drop p).take (q-p)=enc x∧good x
theorem Aq(k:Nat):gN (qx k) (fun b=>b) (fun b=>b.length= k):=fun l p x q hp h=>by
 unfold qx at h
 split at h
 ·cases h
 ·rename_i hk
  simp only[Except.ok.injEq,Prod.mk.injEq]at h;obtain⟨rfl,rfl⟩:=h;refine⟨by omega,by omega,by rw[Nat.add_sub_cancel_left],?_⟩;show(List.take k (List.drop p l)).length=k
  rw[List.length_take,List.length_drop];omega
theorem Pq{l:List UInt8}{p q r:Nat}(h1:p≤ q)(h2:q≤ r):(l.drop p).take (r-p)=(l.drop p).take (q-p)++(l.drop q).take (r-q):=by
 have e:r- p=(q-p)+(r-q):=o_;rw[e,List.take_add,List.drop_drop]
 congr 3;omega
theorem Ib{α β:Type}{o:List UInt8→Nat→ kQ α}{f:α→ List UInt8→Nat→ kQ β}{e1:α→ List UInt8}{g1:α→ Prop}{e2:α→ β→List UInt8}{g2:α→ β→Prop}(h:gN o e1 g1)(h2:∀a,g1 a→gN (f a) (e2 a) (g2 a)){l:List UInt8}{p q:Nat}{y:β}(hp:p≤ l.length)(hr:(cy (o l p) fun a q=>f a l q)= .ok (y,q)):∃a,g1 a∧p≤ q∧q≤ l.length∧(l.drop p).take (q-p)=e1 a++e2 a y∧g2 a y:=by
 cases ho:o l p with
 |error e=>rw [ho]at hr;cases hr
 |ok v=>
  obtain⟨a,m⟩:=v;rw[ho]at hr;simp only[cy]at hr;obtain⟨i1,i2,i3,i4⟩:=h l p a m hp ho;obtain⟨j1,j2,j3,j4⟩:=h2 a i4 l m y q i2 hr;exact⟨a,i4,by omega,j2,by rw[Pq i1 j1,i3,j3],j4⟩
theorem AK{α:Type}(x:α):gN (fun _ p=> .ok (x,p)) (fun _=>[]) (fun y=>y= x):=fun l p y q hp h=>by
 simp only[Except.ok.injEq,Prod.mk.injEq]at h;obtain⟨rfl,rfl⟩:=h;simp[hp]
end Go.Proofs.YtfdmhpohfjbpfaaGreat
namespace Go.Proofs.YtfdmhpohfjbpfaaGreat
open Go.ChangeShapes Go.WideShapes Go.ChangeAt Go.RowKit
set_option maxRecDepth 100000
set_option maxHeartbeats 16000000
theorem kB:sG Tryz.prog 43 5 1 1 where
 under:=Tryz.underlying43
 info:=by
  have h:(Tryz.prog.info? 5).map (fun i=>(i.zero,i.size,i.bytes))=some (some (.int .u8 0),1,1):=k_;obtain⟨i,hi,h0,h1,h2⟩:=info_parts h;exact⟨i,_,hi,h0,h1,h2,rfl⟩
 pos:=d_
 oJ:=d_
theorem YZ {P:Prop}(h:P:=by
 rw[h2]at hrun;simp only[Result.ok.injEq,Value.slice.injEq]at hrun;intro b o s hs;rw[←hrun.1.1]at hs;simp only[Option.some.injEq,Addr.mk.injEq]at hs
 left;omega):P:=h
theorem zH{P:Program}{w:World}{t e:TypeId}{size bytes:Nat}(el:sG P t e size bytes)(ty:TypeId)(D:Nat)(a:Option Addr)(n c:Nat)(xs:List Value)(di:Can w D e size a n c xs)(ad:Option Addr)(m k:Nat)(news:List Value)(hl:news.length= m*size)(hr:Row w ad news)(h1:∀u∈ news,u.oneCell'=true)(hbytes:(n+m)*bytes≤ 140737488355328)(hm:0< m){a':Option Addr}{c':Nat}{w':World}(hrun:(Builtin.append_ #[t,t] ty (vs2 a n c ad m k)).run P w= .ok (.slice a' (n+m) c') w'):cg w.heap.size a a':=by
 obtain⟨i,z,hi,hz,hsize,hby,hzs⟩:=el.info;have hp:=el.pos;have hb:=el.oJ;subst hsize;subst hby;have h63:n+ m≤9223372036854775807:= by
  have:n+ m≤(n+m)*i.bytes:= Nat.le_mul_of_pos_right _ hb;omega
 obtain⟨Uw,rfl⟩:∃x,ad=some x:=by
  cases ad with
  |some x=>exact ⟨x,rfl⟩
  |none=>
   rcases hr with rfl|⟨_,_,h,_⟩
   ·rw[List.length_nil]at hl;have:=Nat.mul_pos hm hp;omega
   ·cases h
 have hnews:=hr.holds;cases a with
 |none=>
  have hc0:c= 0:=di.none hp rfl;have hn0:n= 0:=by have:=di.le;omega
  subst hc0;subst hn0;have h2:=Go.run_append_nil (P:=P) w t ty e i z el.under hi hz Uw m k news hl hnews hm o_ (by have h3:=hbytes;rw[Nat.zero_add]at h3;omega);exact YZ
 |some x=>
  by_cases hroom:n+ m≤c
  ·rcases di.2.2 with⟨h3,_⟩|hown
   ·omega
   ·rcases hown.2 with⟨h0,_⟩|⟨g',cap',cur,hv,_⟩
    ·cases h0
    ·simp only[Value.slice.injEq]at hv;obtain⟨hx,-,-⟩:=hv;simp only[Option.some.injEq]at hx;subst hx;obtain⟨w2,h2,-,-⟩:=run_append_own_spare (P:=P) w D t ty e i i.size el.under hi rfl g' n c xs hown Uw m k news hl hnews h1 hroom;rw[h2]at hrun;simp only[Result.ok.injEq,Value.slice.injEq]at hrun;rw[←hrun.1.1];exact cg.self _ _
  ·have h2:=run_append_grow (P:=P) w t ty e i z el.under hi hz x n c xs di.1 di.row.holds Uw m k news hl hnews o_ o_ (growslice_fits o_ hbytes);exact YZ
theorem ud{w:World}{b o:Nat}{v:Value}(h:w.cell? ⟨b,o,none⟩=some v):w.setCell ⟨b,o,none⟩ v=w:= by
 have hh:(w.setCell ⟨b,o,none⟩ v).heap=w.heap:= by
  refine Array.ext_getElem? fun k=> ?_
  unfold World.setCell;simp only[Array.getElem?_modify];by_cases hk:b= k
  ·subst hk;rw[if_pos rfl];cases hb:w.heap[b]? with
   |none=> rfl
   |some ob=>
    unfold World.cell? at h;rw[hb]at h;cases ob with
    |cells c e fr=>
     simp at h;obtain⟨h1,h2⟩:=Array.getElem?_eq_some_iff.1 h;simp only[Option.map_some,Option.isSome_none,Bool.false_eq_true,if_false]
     congr 2
     refine Array.ext_getElem? fun j=> ?_
     rw[Array.getElem?_setIfInBounds]
     split
     ·rename_i hj;subst hj;exact h.symm
     ·rfl
    |_=> simp at h
  ·rw[if_neg hk]
 cases w
 simp only[World.setCell]at hh ⊢;rw[hh]
structure Cw(w:World)(D g:Nat)(a:Option Addr)(c:Nat)(bs:List UInt8):Prop where
 box:aU w g (Cv a bs.length c 0 false)
 can:Can w D 5 1 a bs.length c (bs.map B)
 lY:∀b o s,a=some ⟨b,o,s⟩→D≤ b
 low:g< D
 lt:∀b o s,a=some ⟨b,o,s⟩→b< w.heap.size
theorem nZ{w:World}{D:Nat}{e:TypeId}{size n c:Nat}{a:Option Addr}{xs:List Value}(h:w.ownsRow D e size (.slice a n c) n xs):∀b o s,a=some ⟨b,o,s⟩→b< w.heap.size:=fun b o s ha=>by
 rcases h.2 with⟨h0,_⟩|⟨g',cap',cur,hv,_,hg,_⟩
 ·simp only[Value.slice.injEq]at h0;rw[ha]at h0;cases h0.1
 ·simp only[Value.slice.injEq]at hv;rw[ha]at hv;have h1:=hv.1;simp only[Option.some.injEq,Addr.mk.injEq]at h1;rw[h1.1];exact(Array.getElem?_eq_some_iff.1 hg).1
theorem Cw.below{w w':World}{D g c:Nat}{a:Option Addr}{bs:List UInt8}(h:Cw w D g a c bs)(hb:Below w.heap.size w w'):Cw w' D g a c bs:=
 ⟨h.box.next (by simp) hb,nD h.can (cx.below hb n_:cx D w.heap.size w w') (fun b o s e=> .inl (h.lY b o s e)) n_ n_,h.lY,h.low,fun b o s e=>Nat.lt_of_lt_of_le (h.lt b o s e) hb.size⟩
theorem Cw.new{w:World}{D g c:Nat}{a:Option Addr}{bs:List UInt8}(h:Cw w D g a c bs):w.heap.size≠ g∧∀o s,a≠some ⟨w.heap.size,o,s⟩:=by
 have:=h.box.lt (by simp);exact⟨by omega,fun o s e=>by have:=h.lt _ o s e;omega⟩
structure kR(g:Nat)(a a':Option Addr)(w w':World):Prop where
 os:w'.os= w.os
 tape:w'.tape= w.tape
 output:w'.output= w.output
 size:w.heap.size≤ w'.heap.size
 bY:∀k,k<w.heap.size→ k≠g→ (∀o s,a≠some ⟨k,o,s⟩)→w'.heap[k]? =w.heap[k]?
 eZ:cg w.heap.size a a'
theorem kR.refl(g:Nat)(a:Option Addr)(w:World):kR g a a w w:=⟨rfl,rfl,rfl,Nat.le_refl _,fun _ _ _ _=>rfl,cg.self _ _⟩
theorem kR.trans{g:Nat}{a a' a'':Option Addr}{w w' w'':World}(h:kR g a a' w w')(h2:kR g a' a'' w' w''):kR g a a'' w w'':=
 ⟨h2.os.trans h.os,h2.tape.trans h.tape,h2.output.trans h.output,Nat.le_trans h.size h2.size,fun k hk hg ha=>by
  rw[h2.bY k (Nat.lt_of_lt_of_le hk h.size) hg (fun o s e=>by
   rcases h.eZ k o s e with h1|⟨o',s',h1⟩
   ·omega
   ·exact ha o' s' h1)]
  exact h.bY k hk hg ha,fun b o s e=>by
  rcases h2.eZ b o s e with h1|⟨o',s',h1⟩
  ·exact .inl (Nat.le_trans h.size h1)
  ·exact h.eZ b o' s' h1⟩
theorem aU.yh{w w':World}{g x:Nat}{a a':Option Addr}{cs:List Value}(h:aU w x cs)(h0:0< cs.length)(hg:kR g a a' w w')(hne:x≠ g)(ha:∀o s,a≠some ⟨x,o,s⟩):aU w' x cs:=h.block (hg.bY x (h.lt h0) hne ha)
theorem kR.off{w w':World}{g x:Nat}{a a':Option Addr}(hg:kR g a a' w w')(hx:x< w.heap.size)(ha:∀o s,a≠some ⟨x,o,s⟩):∀o s,a'≠some ⟨x,o,s⟩:=fun o s e=>by
 rcases hg.eZ x o s e with h1|⟨o',s',h1⟩
 ·omega
 ·exact ha o' s' h1
theorem jv{P:Program}{w:World}{ops:Array Oper}{o:Oper}{ac:Act}{K:Act→ World→Prop}{Q:Exit→ Act→World→ Prop}{E:Prop}{t e:TypeId}{size bytes:Nat}(el:sG P t e size bytes)(hgd:o.guard= none)(s x:Operand)(ho:o.op= .call {callee:= .builtin .append,args:= #[s,x],argTypes:= #[t,t]})(D:Nat)(a:Option Addr)(n c:Nat)(xs:List Value)(hs:ac.eval s= .slice a n c)(di:Can w D e size a n c xs)(ad:Option Addr)(m k:Nat)(news:List Value)(hx:ac.eval x= .slice ad m k)(hl:news.length= m*size)(hr:Row w ad news)(h1:∀u∈ news,u.oneCell'=true)(hbytes:(n+m)*bytes≤ 140737488355328)(hD:D≤ w.heap.size)(hm:0< m)(h:∀a' c' w',Can w' D e size a' (n+m) c' (xs++news)→w.grownBy w' (Value.slice a n c).ownBlock→cg w.heap.size a a'→w'.ownsRow D e size (.slice a' (n+m) c') (n+m) (xs++news)→K (ac.put o.dst (.slice a' (n+m) c')) w'):
 if Region.wanted o (yielded ops ac.tmps)=true then Oper.wp P o ac w K Q else E:=by
 have hw:Region.wanted o (yielded ops ac.tmps)=true:= by simp[Region.wanted,hgd]
 rw[if_pos hw];obtain⟨a',c',w',hrun,h2,h3,h4,h5⟩:=vw el o.type D a n c xs di ad m k news hl hr h1 hbytes hD;have hn:=zH el o.type D a n c xs di ad m k news hl hr h1 hbytes hm hrun;unfold Oper.wp execOp;simp only[ho,resolve,invoke,builtin,Sem.run_bind,Sem.run_pure,Result.andThen_ok,List.map_toArray,List.map_cons,List.map_nil,hs,hx,hrun];exact h a' c' w' h2 h3 hn (h5.1 hm)
theorem Cw.step{w W0 w':World}{D g:Nat}{a a':Option Addr}{c c':Nat}{bs ns:List UInt8}(h:Cw w D g a c bs)(hb:Below w.heap.size w W0)(hD:D≤ w.heap.size)(di:Can w' D 5 1 a' (bs.length+ns.length) c' (bs.map B++ns.map B))(hg:W0.grownBy w' (Value.slice a bs.length c).ownBlock)(hn:cg W0.heap.size a a')(hown:∀b o s,a'=some ⟨b,o,s⟩→D≤ b)(hlt:∀b o s,a'=some ⟨b,o,s⟩→b< w'.heap.size):
 aU w' g (Cv a bs.length c 0 false)∧Cw (w'.setCell ⟨g,0,none⟩ (.slice a' (bs.length+ns.length) c')) D g a' c' (bs++ns)∧kR g a a' w (w'.setCell ⟨g,0,none⟩ (.slice a' (bs.length+ns.length) c')):=by
 have hga:∀o s,a≠some ⟨g,o,s⟩:=fun o s e=>by have:=h.lY g o s e;have:=h.low;omega
 have hgl:=h.box.lt (by simp);have ow:∀k,(∀o s,a≠some ⟨k,o,s⟩)→some k≠(Value.slice a bs.length c).ownBlock:=fun k hk e=>by
  cases a with
  |none=> simp[Value.ownBlock]at e
  |some ad=>
   obtain⟨y,u,v⟩:=ad;simp[Value.ownBlock]at e;subst e;exact hk u v rfl
 have abX:=h.box.next (by simp) hb;have fI:aU w' g (Cv a bs.length c 0 false):=abX.block (hg.block g (Nat.lt_of_lt_of_le hgl hb.size) (ow g hga));have hbs:=fI.set (i:=0) (show 0<3 by decide) (.slice a' (bs.length+ns.length) c');have afK:∀o s,a'≠some ⟨g,o,s⟩:=fun o s e=>by have:=hown g o s e;have:=h.low;omega
 refine⟨fI,⟨by rw[List.length_append];exact hbs,?_,hown,h.low,fun b o s e=>by simpa using hlt b o s e⟩,⟨?_,?_,?_,?_,?_,hn.mono hb.size⟩⟩
 ·rw[List.length_append,List.map_append];exact nD di ((cx.refl D w'.heap.size w').setCell ⟨g,0,none⟩ _ (.inl h.low)) (fun b o s e=> .inl (hown b o s e)) n_ n_
 ·exact(hg.os.trans hb.os)
 ·exact(hg.tape.trans hb.tape)
 ·exact(hg.output.trans hb.output)
 ·have:=hg.size;have:=hb.size;simp;omega
 ·intro k hk hkg hka;rw[Below.heap_setCell _ _ _ _ (fun e=>hkg e),hg.block k (Nat.lt_of_lt_of_le hk hb.size) (ow k hka),hb.block k hk]
end Go.Proofs.YtfdmhpohfjbpfaaGreat
namespace Go.Proofs.YtfdmhpohfjbpfaaGreat
set_option maxHeartbeats 16000000
def lJ(n:Nat):Prop:= n<9223372036854775808
def H6(k:Int):Prop:= -128≤ k∧k< 128
theorem jP{α β:Type}{o:List UInt8→Nat→ kQ α}{f:α→ List UInt8→Nat→ kQ β}{e1:α→ List UInt8}{g1:α→ Prop}{E:α→ β→List UInt8}{G:α→ β→Prop}{enc:β→ List UInt8}{good:β→ Prop}(h:gN o e1 g1)(h2:∀a,g1 a→gN (f a) (E a) (G a))(hj:∀a y,g1 a→G a y→enc y=e1 a++E a y∧good y):gN (fun l p=>cy (o l p) fun a q=>f a l q) enc good:=fun l p y q hp hr=>by
 obtain⟨a,h3,h4,h5,h6,h7⟩:=Ib h h2 hp hr;obtain⟨h8,h9⟩:=hj a y h3 h7;exact⟨h4,h5,by rw[h6,h8],h9⟩
theorem Gl{α β:Type}{o:List UInt8→Nat→ kQ α}{g:α→ β}{e1:α→ List UInt8}{g1:α→ Prop}{enc:β→ List UInt8}{good:β→ Prop}(h:gN o e1 g1)(hj:∀a,g1 a→enc (g a)=e1 a∧good (g a)):
 gN (fun l p=>cy (o l p) fun a q=> .ok (g a,q)) enc good:=
 jP (f:=fun a _ p=> .ok (g a,p)) (E:=fun _ _=>[]) (G:=fun a y=>y= g a) h (fun a _=>AK (g a)) (fun a y h1 h2=>by subst h2;rw[List.append_nil];exact hj a h1)
theorem gG:gN fX dV eo:=Gl (Aq 8) fun b hb=>⟨NG hb,RB hb⟩
theorem xS:gN il (fun b=>[b]) (fun _=>True):=Gl (Aq 1) fun b hb=>by
 match b,hb with
 |[c],_=>exact ⟨rfl,trivial⟩
theorem I8:gN Gg (fun k=>[mY k]) H6:=Gl xS fun b _=>⟨by rw[Gf],OP b⟩
theorem GX:gN jW (fun x=>[iH x]) (fun _=>True):=fun l p x q hp h=>by
 unfold jW at h;cases hs:il l p with
 |error e=>rw [hs]at h;cases h
 |ok v=>
  obtain⟨b,m⟩:=v;rw[hs]at h;simp only[cy]at h
  split at h
  ·cases h
  ·rename_i hb
   simp only[Except.ok.injEq,Prod.mk.injEq]at h;obtain⟨rfl,rfl⟩:=h;obtain⟨i1,i2,i3,_⟩:=xS l p b m hp hs;refine⟨i1,i2,?_,trivial⟩;rw[i3];have h01:b.toNat= 0∨b.toNat= 1:=o_;rcases h01 with h0|h0
   ·have:b= 0:=UInt8.toNat_inj.1 (by rw[h0];rfl);subst this;rfl
   ·have:b= 1:=UInt8.toNat_inj.1 (by rw[h0];rfl);subst this;rfl
theorem Fg(size:Nat):gN (countP size) (fun n=>dV (n:Int)) (fun n=>lJ n):=fun l p n q hp h=>by
 unfold countP at h;cases hs:fX l p with
 |error e=>rw [hs]at h;cases h
 |ok v=>
  obtain⟨b,m⟩:=v;rw[hs]at h;simp only[cy]at h
  split at h
  ·cases h
  ·rename_i hb
   simp only[Except.ok.injEq,Prod.mk.injEq]at h;obtain⟨rfl,rfl⟩:=h;obtain⟨i1,i2,i3,i4⟩:=gG l p b m hp hs;have e:((b.toNat:Nat):Int)=b:= o_;refine⟨i1,i2,by rw[i3];simp only[e],?_⟩;unfold eo at i4;unfold lJ;omega
theorem xU{α:Type}{one:List UInt8→Nat→ kQ α}{enc:α→ List UInt8}{good:α→ Prop}(h:gN one enc good):∀n,gN (ej one n) (fun xs=>xs.flatMap enc) (fun xs=>xs.length= n∧∀x∈ xs,good x)
 |0=> fun l p x q hp hr=>by
  obtain⟨i1,i2,i3,rfl⟩:=AK ([]:List α) l p x q hp hr;exact⟨i1,i2,i3,rfl,by simp⟩
 |n+ 1=>jP (f:=fun x l q=>cy (ej one n l q) fun xs q=> .ok (x::xs,q)) (E:=fun _ y=>y.tail.flatMap enc) (G:=fun a y=>∃xs,y=a:: xs∧xs.length= n∧∀x∈ xs,good x) h
  (fun a _=>Gl (xU h n) fun xs hx=>⟨rfl,xs,rfl,hx⟩)
  (fun a y h1 h2=>by
   obtain⟨xs,rfl,h3,h4⟩:=h2
   exact⟨rfl,by rw[List.length_cons,h3],fun x hx=>by rcases List.mem_cons.1 hx with rfl|hx;exact h1;exact h4 x hx⟩)
theorem Jb{α:Type}{one:List UInt8→Nat→ kQ α}{enc:α→ List UInt8}{good:α→ Prop}(size:Nat)(h:gN one enc good):gN (rH size one) (fun xs=>dV xs.length++xs.flatMap enc) (fun xs=>lJ xs.length∧∀x∈ xs,good x):=
 jP (E:=fun _ xs=>xs.flatMap enc) (G:=fun n xs=>xs.length= n∧∀x∈ xs,good x) (Fg size) (fun n _=>xU h n) (fun n y h1 h2=>by obtain⟨rfl,h3⟩:=h2;exact⟨rfl,h1,h3⟩)
theorem Au:gN (rH 8 fX) (fun xs=>dV xs.length++xs.flatMap dV) (fun xs=>lJ xs.length∧∀y∈ xs,eo y):=Jb 8 gG
structure iD where
 term:Int
 kind:Int
 ag:Int
 set:UInt8
 data:List UInt8
 deriving DecidableEq
structure cR where
 kind:Int
 aA:Int
 number:Int
 aC:Int
 aK:Int
 aq:Int
 ak:Int
 aM:Int
 bW:Int
 size:Int
 bN:Int
 closed:Bool
 bp:List Int
 deriving DecidableEq
def gK(x:cR):List UInt8:=[mY x.kind]++(dV x.aA++(dV x.number++(dV x.aC++(dV x.aK++(dV x.aq++(dV x.ak++(dV x.aM++(dV x.bW++(dV x.size++(dV x.bN++([iH x.closed]++((dV x.bp.length++x.bp.flatMap dV)))))))))))))
def lN(x:cR):Prop:= H6 x.kind∧eo x.aA∧eo x.number∧eo x.aC∧eo x.aK∧eo x.aq∧eo x.ak∧eo x.aM∧eo x.bW∧eo x.size∧eo x.bN∧True∧ (lJ x.bp.length∧∀y∈ x.bp,eo y)
def ni(l:List UInt8)(p:Nat):kQ cR:=cy (Gg l p) fun v0 p=>cy (fX l p) fun v1 p=>cy (fX l p) fun v2 p=>cy (fX l p) fun v3 p=>cy (fX l p) fun v4 p=>cy (fX l p) fun v5 p=>cy (fX l p) fun v6 p=>cy (fX l p) fun v7 p=>cy (fX l p) fun v8 p=>cy (fX l p) fun v9 p=>cy (fX l p) fun v10 p=>cy (jW l p) fun v11 p=>cy (rH 8 fX l p) fun v12 p=> .ok (⟨v0,v1,v2,v3,v4,v5,v6,v7,v8,v9,v10,v11,v12⟩,p)
theorem JA:gN ni gK lN:=by
 refine jP (E:=fun _ x=>dV x.aA++(dV x.number++(dV x.aC++(dV x.aK++(dV x.aq++(dV x.ak++(dV x.aM++(dV x.bW++(dV x.size++(dV x.bN++([iH x.closed]++((dV x.bp.length++x.bp.flatMap dV))))))))))))) (G:=fun v0 x=>x.kind= v0∧eo x.aA∧eo x.number∧eo x.aC∧eo x.aK∧eo x.aq∧eo x.ak∧eo x.aM∧eo x.bW∧eo x.size∧eo x.bN∧True∧ (lJ x.bp.length∧∀y∈ x.bp,eo y)) I8 (fun v0 g0=> ?_) (fun v0 x g0 gx=> ?_)
 ·skip;refine jP (E:=fun _ x=>dV x.number++(dV x.aC++(dV x.aK++(dV x.aq++(dV x.ak++(dV x.aM++(dV x.bW++(dV x.size++(dV x.bN++([iH x.closed]++((dV x.bp.length++x.bp.flatMap dV)))))))))))) (G:=fun v1 x=>x.kind= v0∧x.aA= v1∧eo x.number∧eo x.aC∧eo x.aK∧eo x.aq∧eo x.ak∧eo x.aM∧eo x.bW∧eo x.size∧eo x.bN∧True∧ (lJ x.bp.length∧∀y∈ x.bp,eo y)) gG (fun v1 g1=> ?_) (fun v1 x g1 gx=> ?_)
  ·skip;refine jP (E:=fun _ x=>dV x.aC++(dV x.aK++(dV x.aq++(dV x.ak++(dV x.aM++(dV x.bW++(dV x.size++(dV x.bN++([iH x.closed]++((dV x.bp.length++x.bp.flatMap dV))))))))))) (G:=fun v2 x=>x.kind= v0∧x.aA= v1∧x.number= v2∧eo x.aC∧eo x.aK∧eo x.aq∧eo x.ak∧eo x.aM∧eo x.bW∧eo x.size∧eo x.bN∧True∧ (lJ x.bp.length∧∀y∈ x.bp,eo y)) gG (fun v2 g2=> ?_) (fun v2 x g2 gx=> ?_)
   ·skip;refine jP (E:=fun _ x=>dV x.aK++(dV x.aq++(dV x.ak++(dV x.aM++(dV x.bW++(dV x.size++(dV x.bN++([iH x.closed]++((dV x.bp.length++x.bp.flatMap dV)))))))))) (G:=fun v3 x=>x.kind= v0∧x.aA= v1∧x.number= v2∧x.aC= v3∧eo x.aK∧eo x.aq∧eo x.ak∧eo x.aM∧eo x.bW∧eo x.size∧eo x.bN∧True∧ (lJ x.bp.length∧∀y∈ x.bp,eo y)) gG (fun v3 g3=> ?_) (fun v3 x g3 gx=> ?_)
    ·skip;refine jP (E:=fun _ x=>dV x.aq++(dV x.ak++(dV x.aM++(dV x.bW++(dV x.size++(dV x.bN++([iH x.closed]++((dV x.bp.length++x.bp.flatMap dV))))))))) (G:=fun v4 x=>x.kind= v0∧x.aA= v1∧x.number= v2∧x.aC= v3∧x.aK= v4∧eo x.aq∧eo x.ak∧eo x.aM∧eo x.bW∧eo x.size∧eo x.bN∧True∧ (lJ x.bp.length∧∀y∈ x.bp,eo y)) gG (fun v4 g4=> ?_) (fun v4 x g4 gx=> ?_)
     ·skip;refine jP (E:=fun _ x=>dV x.ak++(dV x.aM++(dV x.bW++(dV x.size++(dV x.bN++([iH x.closed]++((dV x.bp.length++x.bp.flatMap dV)))))))) (G:=fun v5 x=>x.kind= v0∧x.aA= v1∧x.number= v2∧x.aC= v3∧x.aK= v4∧x.aq= v5∧eo x.ak∧eo x.aM∧eo x.bW∧eo x.size∧eo x.bN∧True∧ (lJ x.bp.length∧∀y∈ x.bp,eo y)) gG (fun v5 g5=> ?_) (fun v5 x g5 gx=> ?_)
      ·skip;refine jP (E:=fun _ x=>dV x.aM++(dV x.bW++(dV x.size++(dV x.bN++([iH x.closed]++((dV x.bp.length++x.bp.flatMap dV))))))) (G:=fun v6 x=>x.kind= v0∧x.aA= v1∧x.number= v2∧x.aC= v3∧x.aK= v4∧x.aq= v5∧x.ak= v6∧eo x.aM∧eo x.bW∧eo x.size∧eo x.bN∧True∧ (lJ x.bp.length∧∀y∈ x.bp,eo y)) gG (fun v6 g6=> ?_) (fun v6 x g6 gx=> ?_)
       ·skip;refine jP (E:=fun _ x=>dV x.bW++(dV x.size++(dV x.bN++([iH x.closed]++((dV x.bp.length++x.bp.flatMap dV)))))) (G:=fun v7 x=>x.kind= v0∧x.aA= v1∧x.number= v2∧x.aC= v3∧x.aK= v4∧x.aq= v5∧x.ak= v6∧x.aM= v7∧eo x.bW∧eo x.size∧eo x.bN∧True∧ (lJ x.bp.length∧∀y∈ x.bp,eo y)) gG (fun v7 g7=> ?_) (fun v7 x g7 gx=> ?_)
        ·skip;refine jP (E:=fun _ x=>dV x.size++(dV x.bN++([iH x.closed]++((dV x.bp.length++x.bp.flatMap dV))))) (G:=fun v8 x=>x.kind= v0∧x.aA= v1∧x.number= v2∧x.aC= v3∧x.aK= v4∧x.aq= v5∧x.ak= v6∧x.aM= v7∧x.bW= v8∧eo x.size∧eo x.bN∧True∧ (lJ x.bp.length∧∀y∈ x.bp,eo y)) gG (fun v8 g8=> ?_) (fun v8 x g8 gx=> ?_)
         ·skip;refine jP (E:=fun _ x=>dV x.bN++([iH x.closed]++((dV x.bp.length++x.bp.flatMap dV)))) (G:=fun v9 x=>x.kind= v0∧x.aA= v1∧x.number= v2∧x.aC= v3∧x.aK= v4∧x.aq= v5∧x.ak= v6∧x.aM= v7∧x.bW= v8∧x.size= v9∧eo x.bN∧True∧ (lJ x.bp.length∧∀y∈ x.bp,eo y)) gG (fun v9 g9=> ?_) (fun v9 x g9 gx=> ?_)
          ·skip;refine jP (E:=fun _ x=>[iH x.closed]++((dV x.bp.length++x.bp.flatMap dV))) (G:=fun v10 x=>x.kind= v0∧x.aA= v1∧x.number= v2∧x.aC= v3∧x.aK= v4∧x.aq= v5∧x.ak= v6∧x.aM= v7∧x.bW= v8∧x.size= v9∧x.bN= v10∧True∧ (lJ x.bp.length∧∀y∈ x.bp,eo y)) gG (fun v10 g10=> ?_) (fun v10 x g10 gx=> ?_)
           ·skip;refine jP (E:=fun _ x=>(dV x.bp.length++x.bp.flatMap dV)) (G:=fun v11 x=>x.kind= v0∧x.aA= v1∧x.number= v2∧x.aC= v3∧x.aK= v4∧x.aq= v5∧x.ak= v6∧x.aM= v7∧x.bW= v8∧x.size= v9∧x.bN= v10∧x.closed= v11∧(lJ x.bp.length∧∀y∈ x.bp,eo y)) GX (fun v11 g11=> ?_) (fun v11 x g11 gx=> ?_)
            ·skip;refine Gl Au fun v12 g12=>⟨rfl,?_⟩
             exact⟨rfl,rfl,rfl,rfl,rfl,rfl,rfl,rfl,rfl,rfl,rfl,rfl,g12⟩
            ·obtain⟨e0,e1,e2,e3,e4,e5,e6,e7,e8,e9,e10,e11,yV⟩:=gx;subst e11;exact⟨rfl,e0,e1,e2,e3,e4,e5,e6,e7,e8,e9,e10,g11,yV⟩
           ·obtain⟨e0,e1,e2,e3,e4,e5,e6,e7,e8,e9,e10,Bo,yV⟩:=gx;subst e10;exact⟨rfl,e0,e1,e2,e3,e4,e5,e6,e7,e8,e9,g10,Bo,yV⟩
          ·obtain⟨e0,e1,e2,e3,e4,e5,e6,e7,e8,e9,C9,Bo,yV⟩:=gx;subst e9;exact⟨rfl,e0,e1,e2,e3,e4,e5,e6,e7,e8,g9,C9,Bo,yV⟩
         ·obtain⟨e0,e1,e2,e3,e4,e5,e6,e7,e8,r9,C9,Bo,yV⟩:=gx;subst e8;exact⟨rfl,e0,e1,e2,e3,e4,e5,e6,e7,g8,r9,C9,Bo,yV⟩
        ·obtain⟨e0,e1,e2,e3,e4,e5,e6,e7,r8,r9,C9,Bo,yV⟩:=gx;subst e7;exact⟨rfl,e0,e1,e2,e3,e4,e5,e6,g7,r8,r9,C9,Bo,yV⟩
       ·obtain⟨e0,e1,e2,e3,e4,e5,e6,r7,r8,r9,C9,Bo,yV⟩:=gx;subst e6;exact⟨rfl,e0,e1,e2,e3,e4,e5,g6,r7,r8,r9,C9,Bo,yV⟩
      ·obtain⟨e0,e1,e2,e3,e4,e5,r6,r7,r8,r9,C9,Bo,yV⟩:=gx;subst e5;exact⟨rfl,e0,e1,e2,e3,e4,g5,r6,r7,r8,r9,C9,Bo,yV⟩
     ·obtain⟨e0,e1,e2,e3,e4,r5,r6,r7,r8,r9,C9,Bo,yV⟩:=gx;subst e4;exact⟨rfl,e0,e1,e2,e3,g4,r5,r6,r7,r8,r9,C9,Bo,yV⟩
    ·obtain⟨e0,e1,e2,e3,r4,r5,r6,r7,r8,r9,C9,Bo,yV⟩:=gx;subst e3;exact⟨rfl,e0,e1,e2,g3,r4,r5,r6,r7,r8,r9,C9,Bo,yV⟩
   ·obtain⟨e0,e1,e2,r3,r4,r5,r6,r7,r8,r9,C9,Bo,yV⟩:=gx;subst e2;exact⟨rfl,e0,e1,g2,r3,r4,r5,r6,r7,r8,r9,C9,Bo,yV⟩
  ·obtain⟨e0,e1,r2,r3,r4,r5,r6,r7,r8,r9,C9,Bo,yV⟩:=gx;subst e1;exact⟨rfl,e0,g1,r2,r3,r4,r5,r6,r7,r8,r9,C9,Bo,yV⟩
 ·obtain⟨e0,r1,r2,r3,r4,r5,r6,r7,r8,r9,C9,Bo,yV⟩:=gx;subst e0;exact⟨rfl,g0,r1,r2,r3,r4,r5,r6,r7,r8,r9,C9,Bo,yV⟩
theorem EE{α:Type}{one:List UInt8→Nat→ kQ α}{enc:α→ List UInt8}{good:α→ Prop}{zero x:α}{l:List UInt8}{f:Nat}(h:gN one enc good)(hr:lT zero one l=(x,f,0)):enc x=l∧ good x:=by
 unfold lT at hr
 split at hr
 ·simp at hr
 ·split at hr
  ·simp at hr
  ·rename_i y q he
   split at hr
   ·simp at hr
   ·rename_i hq
    simp only[Prod.mk.injEq]at hr;obtain⟨rfl,-⟩:=hr;obtain⟨h1,h2,h3,h4⟩:=h l 0 y q (Nat.zero_le _) he;have:q= l.length:=o_;subst this;refine⟨?_,h4⟩;rw[←h3];simp
end Go.Proofs.YtfdmhpohfjbpfaaGreat
namespace Go.Proofs.YtfdmhpohfjbpfaaGreat
open Go.ChangeShapes Go.WideShapes Go.ChangeAt Go.RowKit
set_option maxRecDepth 100000
set_option maxHeartbeats 16000000
structure dv(S:Nat→ Prop)(w w':World):Prop where
 os:w'.os= w.os
 tape:w'.tape= w.tape
 output:w'.output= w.output
 size:w.heap.size≤ w'.heap.size
 block:∀k,k<w.heap.size→ ¬S k→w'.heap[k]? =w.heap[k]?
theorem dv.refl(S:Nat→ Prop)(w:World):dv S w w:=⟨rfl,rfl,rfl,Nat.le_refl _,fun _ _ _=>rfl⟩
theorem dv.trans{S:Nat→ Prop}{w w' w'':World}(h:dv S w w')(h2:dv S w' w''):dv S w w'':=
 ⟨h2.os.trans h.os,h2.tape.trans h.tape,h2.output.trans h.output,Nat.le_trans h.size h2.size,fun k hk hn=>(h2.block k (Nat.lt_of_lt_of_le hk h.size) hn).trans (h.block k hk hn)⟩
theorem dv.mono{S S':Nat→ Prop}{w w':World}(h:dv S w w')(hs:∀k,k<w.heap.size→ S k→S' k):dv S' w w':=⟨h.os,h.tape,h.output,h.size,fun k hk hn=>h.block k hk (fun e=>hn (hs k hk e))⟩
theorem dv.of{S:Nat→ Prop}{w w':World}(h:Below w.heap.size w w'):dv S w w':=⟨h.os,h.tape,h.output,h.size,fun k hk _=>h.block k hk⟩
theorem dv.Qj{S:Nat→ Prop}{w w':World}{b:Nat}(h:dv S w w')(hb:b≤ w.heap.size)(hs:∀k,S k→b≤ k):Below b w w':=⟨h.os,h.tape,h.output,h.size,fun k hk=>h.block k o_ (fun e=>by have:=hs k e;omega)⟩
theorem dv.set{S:Nat→ Prop}{w w':World}(h:dv S w w')(p:Addr)(v:Value)(hp:S p.block):dv S w (w'.setCell p v):=
 h.trans ⟨rfl,rfl,rfl,by simp,fun k _ hn=>Below.heap_setCell _ _ _ _ (fun e=>hn (e▸hp))⟩
theorem aU.bY{S:Nat→ Prop}{w w':World}{g:Nat}{cs:List Value}(h:aU w g cs)(h0:0< cs.length)(hk:dv S w w')(hn:¬S g):aU w' g cs:=h.block (hk.block g (h.lt h0) hn)
theorem Row.bY{S:Nat→ Prop}{w w':World}{a:Option Addr}{xs:List Value}(h:Row w a xs)(hk:dv S w w')(hn:∀b o s,a=some ⟨b,o,s⟩→¬S b):Row w' a xs:=by
 by_cases h0:xs= []
 ·exact .inl h0
 ·rcases h with h|⟨b,o,rfl,hc⟩
  ·exact absurd h h0
  ·have hlt:=Row.lt (.inr ⟨b,o,rfl,hc⟩) h0;exact .inr ⟨b,o,rfl,fun i hi=>by rw[World.cell?_of_block (w:=w) (hk.block b hlt (hn b o none rfl))];exact hc i hi⟩
def jU(a:Option Addr)(bs:List UInt8):Option Addr:=if bs=[]then none else a
theorem Da{a:Option Addr}{bs:List UInt8}{p:Addr}(h:a= some p)(h0:bs≠ []):jU a bs=some p:=by unfold jU;rw[if_neg h0];exact h
theorem iu.Gb{S:Nat→ Prop}{w w':World}{a:Option Addr}{bs:List UInt8}(h:iu w a bs)(hk:dv S w w')(hn:∀b o s,jU a bs=some ⟨b,o,s⟩→¬S b):iu w' a bs:=by
 by_cases h0:bs= []
 ·exact .inl (by rw[h0];rfl)
 ·exact Row.bY h hk (fun b o s e=>hn b o s (Da e h0))
structure Cr(w:World)(g:Nat)(a:Option Addr)(c:Nat)(bs:List UInt8)(p:Nat):Prop where
 box:aU w g (Cv a bs.length c p true)
 row:iu w a bs
 le:p≤ bs.length
 cap:bs.length≤ c
 low:∀b o s,jU a bs=some ⟨b,o,s⟩→b< g
structure Bl(g:Nat)(a:Option Addr)(k:Nat):Prop where
 ne:k≠ g
 lY:∀o s,a≠some ⟨k,o,s⟩
theorem Cr.bY{S:Nat→ Prop}{w w':World}{g:Nat}{a:Option Addr}{c:Nat}{bs:List UInt8}{p:Nat}(h:Cr w g a c bs p)(hk:dv S w w')(hs:∀k,S k→Bl g (jU a bs) k):Cr w' g a c bs p:=
 ⟨h.box.bY (by simp) hk (fun e=>(hs g e).ne rfl),iu.Gb h.row hk (fun b o s e e2=>(hs b e2).lY o s e),h.le,h.cap,h.low⟩
theorem Cr.new{w:World}{g:Nat}{a:Option Addr}{c:Nat}{bs:List UInt8}{p:Nat}(h:Cr w g a c bs p){k:Nat}(hk:w.heap.size≤ k):Bl g (jU a bs) k:=by
 have h1:=h.box.lt (by simp);exact⟨by omega,fun o s e=>by have:=h.low k o s e;omega⟩
theorem Cr.below{w w':World}{g:Nat}{a:Option Addr}{c:Nat}{bs:List UInt8}{p:Nat}(h:Cr w g a c bs p)(hb:Below w.heap.size w w'):Cr w' g a c bs p:=h.bY (S:=fun k=>w.heap.size≤ k) (.of hb) (fun k hk=>h.new hk)
theorem Cr.move{w:World}{g:Nat}{a:Option Addr}{c:Nat}{bs:List UInt8}{p:Nat}(h:Cr w g a c bs p){q:Nat}(hq:q≤ bs.length):Cr (w.setCell ⟨g,1,none⟩ (.int .i64 q)) g a c bs q:=
 ⟨h.box.set (i:=1) (by simp) _,iu.Gb h.row ((dv.refl (fun k=>k= g) w).set _ _ rfl) (fun b o s e e2=>by have:=h.low b o s e;omega),hq,h.cap,h.low⟩
abbrev KQ(f:Nat):Ending:= .panicked [{v:= .iface 143 (.agg #[.int .i64 f]),recovered:=false}]
def XO{α:Type}(w:World)(g:Nat)(a:Option Addr)(c:Nat)(bs:List UInt8)(S:Nat→ Prop)(r:kQ α)(OK:α→ World→Prop)(BAD:World→ Prop)(e:Ending)(w':World):Prop:=
 dv S w w'∧((∃x q,r= .ok (x,q)∧e= .returned (.tuple #[])∧Cr w' g a c bs q∧OK x w')∨(∃f,r= .error f∧e= KQ f∧BAD w'))
def rR(w:World)(g:Nat)(a:Option Addr)(c:Nat)(bs:List UInt8)(k q:Nat)(l:List UInt8)(e:Ending)(w':World):Prop:= ∃a',e= .returned (.slice a' k k)∧iu w' a' l∧Cr w' g a c bs q∧dv (fun b=>b= g) w w'
theorem Gn(g c p k:Nat)(a:Option Addr)(bs:List UInt8)(w:World)(h:Cr w g a c bs p)(hl:bs.length≤ 2000000)(hs:bs.length- p<k):
 Calls Tryz.prog 155 #[.pointer (some ⟨g,0,none⟩),.int .i64 k] w (fun e w'=>e= KQ bs.length∧Below w.heap.size w w'):=by
 have k0:=h.box.cell (j:=0) rfl;have k1:=h.box.cell (j:=1) rfl;have hle:=h.le;have d1:decide ((bs.length:Int)-p< k)=true:= decide_eq_true o_;clear h;go_enter Tryz.func155,Tryz.ntmps155;go_upto_region 1 with(fail);go_quiet (fail);go_wp2_with fail;exact⟨rfl,rfl,below_drewN (Below.refl w.heap.size w) nq⟩
theorem LU(g c p k b o:Nat)(bs:List UInt8)(w:World)(h:Cr w g (some ⟨b,o,none⟩) c bs p)(hl:bs.length≤ 2000000)(hs:¬bs.length- p<k)(hk:0< k):
 Calls Tryz.prog 155 #[.pointer (some ⟨g,0,none⟩),.int .i64 k] w (rR w g (some ⟨b,o,none⟩) c bs k (p+k) ((bs.drop p).take k)):=by
 have k0:=h.box.cell (j:=0) rfl;have k1:=h.box.cell (j:=1) rfl;have z1:=h.box.cu (j:=1) (by simp);have hle:=h.le;have hcap:=h.cap;have d1:decide ((bs.length:Int)-p< k)=false:= decide_eq_false o_;have HC:=h_ h;clear h;go_enter Tryz.func155,Tryz.ntmps155;go_upto_region 1 with(fail);go_quiet (fail);go_upto_region 3 with(fail);go_quiet (fail);go_wp2_with fail
 rename_i Vj
 have hb2:Below w.heap.size w (w.drewN (Vj+nq)):=below_drewN (Below.refl w.heap.size w) _;have hgl:g< w.heap.size:=World.block_lt_of_cell? w _ k0;rw[show p+k- p=k by omega];go_ret;refine⟨some ⟨b,o+p,none⟩,rfl,?_,(HC.below hb2).move o_,(dv.of hb2).set _ _ rfl⟩;have h1:=(Row.drop HC.row p).take k;rw[←List.map_drop,←List.map_take]at h1;exact(h1.below hb2).bY ((dv.refl (fun k=>k= g) _).set _ _ rfl) (fun x y s e e2=>by simp only[Option.some.injEq,Addr.mk.injEq]at e;have:=HC.low b o none (Da rfl (by intro h0;rw[h0]at hs;simp at hs;omega));omega)
theorem CW(g c p:Nat)(ad:Addr)(bs:List UInt8)(w:World)(h:Cr w g (some ad) c bs p)(hl:bs.length≤ 2000000):
 Calls Tryz.prog 155 #[.pointer (some ⟨g,0,none⟩),.int .i64 (0:Nat)] w (rR w g (some ad) c bs 0 p []):=by
 have k0:=h.box.cell (j:=0) rfl;have k1:=h.box.cell (j:=1) rfl;have z1:=h.box.cu (j:=1) (by simp);have hle:=h.le;have hcap:=h.cap;have d1:decide ((bs.length:Int)-p< 0)=false:= decide_eq_false o_;have HC:=h_ h;clear h;go_enter Tryz.func155,Tryz.ntmps155;go_upto_region 1 with(fail);go_quiet (fail);go_upto_region 3 with(fail);go_quiet (fail);go_wp2_with fail
 rename_i Vj
 have hb2:Below w.heap.size w (w.drewN (Vj+nq)):=below_drewN (Below.refl w.heap.size w) _;have hgl:g< w.heap.size:=World.block_lt_of_cell? w _ k0;go_ret;exact⟨_,rfl,.inl rfl,(HC.below hb2).move o_,(dv.of hb2).set _ _ rfl⟩
theorem OU(g c:Nat)(w:World)(h:Cr w g none c [] 0):
 Calls Tryz.prog 155 #[.pointer (some ⟨g,0,none⟩),.int .i64 (0:Nat)] w (rR w g none c [] 0 0 []):=by
 have k0:=h.box.cell (j:=0) rfl;have k1:=h.box.cell (j:=1) rfl;have z1:=h.box.cu (j:=1) (by simp);have HC:=h_ h;clear h;go_enter Tryz.func155,Tryz.ntmps155;go_upto_region 1 with(fail);go_quiet (fail);go_upto_region 3 with(fail);go_quiet (fail);go_wp2_with fail
 rename_i Vj
 have hb2:Below w.heap.size w (w.drewN (Vj+nq)):=below_drewN (Below.refl w.heap.size w) _;have hgl:g< w.heap.size:=World.block_lt_of_cell? w _ k0;go_ret;exact⟨_,rfl,.inl rfl,(HC.below hb2).move (by simp),(dv.of hb2).set _ _ rfl⟩
theorem J6(g c p k:Nat)(a:Option Addr)(bs:List UInt8)(w:World)(h:Cr w g a c bs p)(hl:bs.length≤ 2000000)(hs:¬bs.length- p<k):
 Calls Tryz.prog 155 #[.pointer (some ⟨g,0,none⟩),.int .i64 k] w (rR w g a c bs k (p+k) ((bs.drop p).take k)):=by
 rcases h.row with h0|⟨b,o,rfl,_⟩
 ·have h1:bs= []:=by simpa using h0
  subst h1;have h2:=h.le;obtain rfl:p= 0:=by simpa using h2
  obtain rfl:k= 0:=by simpa using hs
  cases a with
  |none=> exact OU g c w h
  |some ad=>
   have h3:=CW g c 0 ad [] w h (by simp);simpa using h3
 ·by_cases hk:k= 0
  ·subst hk;rw[List.take_zero];exact CW g c p _ bs w h hl
  ·exact LU g c p k b o bs w h hl hs o_
theorem xq{l:List UInt8}{k:Nat}(h:k< l.length):iz (l.take (k+1))=iz (l.take k)*256+ l[k].toNat:=by
 rw[List.take_succ_eq_append_getElem h,Ia]
theorem CX{v:Nat}(x:UInt8)(h:v< 72057594037927936):bits .or .u64 ((v:Int)*256) (IntKind.u64.wrap (x.toNat:Int))=((v*256+ x.toNat:Nat):Int):=by
 have hx:=x.toNat_lt;have e3:IntKind.u64.wrap (x.toNat:Int)=x.toNat:= by rw[IntKind.wrap_u64];omega
 rw[e3];have e:=u64_or_nat (v*256) x.toNat o_ o_;have e2:v* 256 ||| x.toNat=v* 256+x.toNat:= by
  have:=Nat.shiftLeft_add_eq_or_of_lt (i:=8) (b:=x.toNat) o_ v;rw[Nat.shiftLeft_eq]at this;simpa using this.symm
 rw[e2]at e;rw[←e];norm_cast
def H8(w:World)(g gx ox:Nat)(a:Option Addr)(c:Nat)(bs:List UInt8)(p:Nat)(cs:List Value):Ending→ World→Prop:= XO w g a c bs (fun k=>k= g∨k= gx) (fX bs p) (fun v w'=>aU w' gx (cs.set ox (.int .i64 v))) (fun w'=>aU w' gx cs)
theorem Jg(g c p gx ox:Nat)(a:Option Addr)(bs:List UInt8)(cs:List Value)(w:World)(h:Cr w g a c bs p)(hl:bs.length≤ 2000000)(hx:aU w gx cs)(hgx:Bl g (jU a bs) gx)(uQ:ox< cs.length)(hs:bs.length- p<8):
 Calls Tryz.prog 109 #[.pointer (some ⟨g,0,none⟩),.pointer (some ⟨gx,ox,none⟩)] w (H8 w g gx ox a c bs p cs):=by
 have k2:=h.box.cell (j:=2) rfl;have HC:=h_ h;have HX:=h_ hx;have HNB:Hid (Calls Tryz.prog 155 #[.pointer (some ⟨g,0,none⟩),.int .i64 8] w (fun e w'=>e= KQ bs.length∧Below w.heap.size w w')):=Gn g c p 8 a bs w h hl hs;clear h hx;go_enter Tryz.func109,Tryz.ntmps109;go_wp2_with(go_at_call 155;((with_reducible refine HNB.out.mono ?_);rintro e w1 ⟨rfl,hb⟩;have HB:=h_ hb;clear hb));have hn:fX bs p= .error bs.length:=by unfold fX qx;rw[if_pos hs];rfl
 exact⟨rfl,.of HB.out,.inr ⟨_,hn,rfl,HX.next o_ HB.out⟩⟩
theorem LW(g c p gx ox:Nat)(a:Option Addr)(bs:List UInt8)(cs:List Value)(w:World)(h:Cr w g a c bs p)(hl:bs.length≤ 2000000)(hx:aU w gx cs)(hgx:Bl g (jU a bs) gx)(uQ:ox< cs.length)(hs:¬bs.length- p<8):
 Calls Tryz.prog 109 #[.pointer (some ⟨g,0,none⟩),.pointer (some ⟨gx,ox,none⟩)] w (H8 w g gx ox a c bs p cs):=by
 have k2:=h.box.cell (j:=2) rfl;have HC:=h_ h;have HX:=h_ hx;have EU:Hid (Calls Tryz.prog 155 #[.pointer (some ⟨g,0,none⟩),.int .i64 8] w (rR w g a c bs 8 (p+8) ((bs.drop p).take 8))):=J6 g c p 8 a bs w h hl hs;clear h hx;generalize hL:(bs.drop p).take 8=l at EU;have Rj:l.length= 8:=by rw[←hL,List.length_take,List.length_drop];omega
 have HL:=h_ hL;clear hL;go_enter Tryz.func109,Tryz.ntmps109;go_wp2_with(go_at_call 155;((with_reducible refine EU.out.mono ?_);rintro e w1 ⟨a1,rfl,hr1,hc1,hk1⟩;have lX:=h_ hr1;have eK:=h_ hc1;have ZG:=h_ hk1;clear hr1 hc1 hk1));have hgl:=HC.box.lt (by simp);have iO:=h_ (HX.bY o_ ZG.out hgx.ne);have x1:=iO.cell (List.getElem?_eq_getElem uQ);have y1:=iO.cu uQ;obtain⟨b,o,rfl,hcell⟩:=iu.at lX.out (k:=0) o_;have W6:=h_ hcell;have hbs:=lK l;rw[Rj]at hbs;clear hcell;go_loop [4,6,15] (fun v _ i=>∃k: Nat,k≤8∧ i= .int .i64 k∧v= .int .u64 (iz (l.take k):Nat)) (fun _ _ i=>8- (intOf i).toNat)
 case atStart=>exact ⟨0,by omega,rfl,rfl⟩
 case round=>
  obtain⟨k,hk,rfl,rfl⟩:=hrel;by_cases hlt:k< 8
  ·have hcell:=W6.out k o_;have BO:iz (l.take k)<72057594037927936:= by
    refine Nat.lt_of_lt_of_le (lK (l.take k)) ?_;rw[List.length_take,Nat.min_eq_left o_];have:256^ k≤256^ 7:=Nat.pow_le_pow_right d_ o_;omega
   have HS:=h_ (xq (l:=l) (k:=k) o_);have HO:=h_ (CX (l[k]'o_) BO);generalize l[k]'o_=x at hcell HS HO;generalize iz (l.take k)=v at BO HS HO ⊢;go_wp2;exact⟨⟨k+1,by omega,by go_num,by rw[HO.out,HS.out]⟩,by simp[intOf];omega⟩
  ·obtain rfl:k= 8:=o_;rw[List.take_of_length_le o_];have HV:Hid (wrap64 (iz l:Int)=Ar l):=by
    show _=_
    unfold Ar i64 wrap64
    split<;>omega
   generalize iz l=v at HV hbs ⊢;go_wp2;rw[HV.out];go_end0;have hn:fX bs p= .ok (Ar l,p+8):=by unfold fX qx;rw[if_neg hs,HL.out];rfl
   exact⟨(ZG.mono (fun k _ e=> .inl e)).set _ _ (.inr rfl),.inl ⟨_,_,hn,rfl,eK.bY ((dv.refl (fun k=>k= gx) _).set _ _ rfl) (fun k e=>by subst e;exact hgx),iO.set uQ _⟩⟩
theorem OV(g c p gx ox:Nat)(a:Option Addr)(bs:List UInt8)(cs:List Value)(w:World)(h:Cr w g a c bs p)(hl:bs.length≤ 2000000)(hx:aU w gx cs)(hgx:Bl g (jU a bs) gx)(uQ:ox< cs.length):
 Calls Tryz.prog 109 #[.pointer (some ⟨g,0,none⟩),.pointer (some ⟨gx,ox,none⟩)] w (H8 w g gx ox a c bs p cs):=by
 by_cases hs:bs.length- p<8
 ·exact Jg g c p gx ox a bs cs w h hl hx hgx uQ hs
 ·exact LW g c p gx ox a bs cs w h hl hx hgx uQ hs
abbrev dO(g gx:Nat)(w w':World):Prop:= dv (fun k=>k= g∨k= gx∨w.heap.size≤ k) w w'
theorem dv.jl{S:Nat→ Prop}{g gx:Nat}{w w':World}(h:dv S w w')(hs:∀k,S k→k= g∨k= gx):dO g gx w w':=h.mono fun k _ e=>by rcases hs k e with e|e;exact .inl e;exact .inr (.inl e)
theorem dO.refl(g gx:Nat)(w:World):dO g gx w w:=dv.refl _ w
theorem dO.next{g gx:Nat}{w w' w'':World}(h:dO g gx w w')(h2:dO g gx w' w''):dO g gx w w'':=dv.trans h (h2.mono fun k _ e=>by rcases e with e|e| e;exact .inl e;exact .inr (.inl e);exact .inr (.inr (Nat.le_trans h.size e)))
theorem dO.below{g gx:Nat}{w w':World}(h:Below w.heap.size w w'):dO g gx w w':=(dv.of (S:=fun k=>w.heap.size≤ k) h).mono fun k hk e=>absurd e o_
def Any(w:World)(g n:Nat):Prop:= ∃cs: List Value,cs.length=n∧ aU w g cs
theorem Any.of{w:World}{g n:Nat}{cs:List Value}(h:aU w g cs)(hn:cs.length= n):Any w g n:=⟨cs,hn,h⟩
theorem Any.bY{S:Nat→ Prop}{w w':World}{g n:Nat}(h:Any w g n)(h0:0< n)(hk:dv S w w')(hn:¬S g):Any w' g n:=by
 obtain⟨cs,hl,hb⟩:=h;exact⟨cs,hl,hb.bY o_ hk hn⟩
def Nw{α:Type}(w:World)(g gx n:Nat)(a:Option Addr)(c:Nat)(bs:List UInt8)(r:kQ α)(OK:α→ World→Prop)(e:Ending)(w':World):Prop:=
 dO g gx w w'∧((∃x q,r= .ok (x,q)∧e= .returned (.tuple #[])∧Cr w' g a c bs q∧OK x w')∨(∃f,r= .error f∧e= KQ f∧Any w' gx n))
abbrev tH{α:Type}(val:α→ Value)(w:World)(g gx ox:Nat)(a:Option Addr)(c:Nat)(bs:List UInt8)(cs:List Value)(r:kQ α):Ending→ World→Prop:= Nw w g gx cs.length a c bs r (fun v w'=>aU w' gx (cs.set ox (val v)))
theorem Aw(g c p gx ox:Nat)(a:Option Addr)(bs:List UInt8)(cs:List Value)(w:World)(h:Cr w g a c bs p)(hl:bs.length≤ 2000000)(hx:aU w gx cs)(hgx:Bl g (jU a bs) gx)(uQ:ox< cs.length):
 Calls Tryz.prog 109 #[.pointer (some ⟨g,0,none⟩),.pointer (some ⟨gx,ox,none⟩)] w (tH (.int .i64) w g gx ox a c bs cs (fX bs p)):=
 (OV g c p gx ox a bs cs w h hl hx hgx uQ).mono fun e w' h=>by
  obtain⟨hk,h⟩:=h;refine⟨hk.jl fun k e=>e,?_⟩;rcases h with h|⟨f,h1,h2,h3⟩
  ·exact .inl h
  ·exact .inr ⟨f,h1,h2,.of h3 rfl⟩
theorem GK{bs:List UInt8}{p:Nat}(hs:bs.length- p<1):il bs p= .error bs.length:=by unfold il qx;rw[if_pos hs];rfl
theorem Dc{bs:List UInt8}{p:Nat}(hs:¬bs.length- p<1):il bs p= .ok (((bs.drop p).take 1).headD 0,p+1):=by unfold il qx;rw[if_neg hs];rfl
theorem Kb(g c p gx ox:Nat)(a:Option Addr)(bs:List UInt8)(cs:List Value)(w:World)(h:Cr w g a c bs p)(hl:bs.length≤ 2000000)(hx:aU w gx cs)(hgx:Bl g (jU a bs) gx)(uQ:ox< cs.length):
 Calls Tryz.prog 154 #[.pointer (some ⟨g,0,none⟩),.pointer (some ⟨gx,ox,none⟩)] w (tH B w g gx ox a c bs cs (il bs p)):=by
 have k2:=h.box.cell (j:=2) rfl;have HC:=h_ h;have HX:=h_ hx;by_cases hs:bs.length- p<1
 ·have HNB:Hid (Calls Tryz.prog 155 #[.pointer (some ⟨g,0,none⟩),.int .i64 1] w (fun e w'=>e= KQ bs.length∧Below w.heap.size w w')):=Gn g c p 1 a bs w h hl hs;clear h hx;go_enter Tryz.func154,Tryz.ntmps154;go_wp2_with(go_at_call 155;((with_reducible refine HNB.out.mono ?_);rintro e w1 ⟨rfl,hb⟩;have HB:=h_ hb;clear hb));exact⟨rfl,dO.below HB.out,.inr ⟨_,GK hs,rfl,.of (HX.next o_ HB.out) rfl⟩⟩
 ·have EU:Hid (Calls Tryz.prog 155 #[.pointer (some ⟨g,0,none⟩),.int .i64 1] w (rR w g a c bs 1 (p+1) ((bs.drop p).take 1))):=J6 g c p 1 a bs w h hl hs;have HS:=h_ (Dc hs);clear h hx;have cC:((bs.drop p).take 1).length=1:= by rw[List.length_take,List.length_drop];omega
  generalize(bs.drop p).take 1=l at EU HS cC;obtain⟨y,rfl⟩:∃y,l=[y]:=by
   match l,cC with
   |[y],_=>exact ⟨y,rfl⟩
  clear cC;go_enter Tryz.func154,Tryz.ntmps154;go_wp2_with(go_at_call 155;((with_reducible refine EU.out.mono ?_);rintro e w1 ⟨a1,rfl,hr1,hc1,hk1⟩;have iO:=h_ (HX.bY o_ hk1 hgx.ne);have eK:=h_ hc1;have ZG:=h_ hk1;obtain⟨b,o,rfl,hcell⟩:=iu.at hr1 (k:=0) (by simp);have y0:=hcell 0 (by simp);simp only[Nat.add_zero,List.getElem_cons_zero]at y0;have x1:=iO.cell (List.getElem?_eq_getElem uQ);have z1:=iO.cu uQ;clear hr1 hc1 hk1 hcell));go_end0;exact⟨(ZG.jl (gx:=gx) (fun k e=> .inl e)).set _ _ (.inr (.inl rfl)),.inl ⟨_,_,HS.out,rfl,eK.bY ((dv.refl (fun k=>k= gx) _).set _ _ rfl) (fun k e=>by subst e;exact hgx),iO.set uQ _⟩⟩
theorem dO.inner{g gx gy:Nat}{w W w':World}(h:dO g gy W w')(h0:dO g gx w W)(hy:w.heap.size≤ gy):dO g gx w w':=
 dv.trans h0 (h.mono fun k _ e=>by rcases e with e|e| e;exact .inl e;exact .inr (.inr o_);exact .inr (.inr (Nat.le_trans h0.size e)))
theorem dO.off{g gx gy:Nat}{w w':World}{cs:List Value}(h:dO g gy w w')(hb:aU w gx cs)(h0:0< cs.length)(h1:gx≠ g)(h2:gx≠ gy):aU w' gx cs:=
 hb.bY h0 h (by have:=hb.lt h0;omega)
theorem SB(n:Int):IntKind.i8.wrap n=(n+128)%256- 128:=by
 simp[IntKind.wrap,IntKind.bits,IntKind.signed]
 split<;>omega
theorem CQ(b:UInt8):IntKind.i8.wrap (b.toNat:Int)=kW b:=by
 have h:=b.toNat_lt;rw[SB];unfold kW
 split<;>omega
theorem tq16 {P:Prop}(h:P:=by
 exact⟨rfl,uA.inner (dO.below (g:=g) (gx:=gx) HB.out) n_,.inr ⟨_,by(show cy _ _=_);rw[HR.out];rfl,rfl,.of iO.out rfl⟩⟩):P:=h
theorem Ve(g c p gx ox:Nat)(a:Option Addr)(bs:List UInt8)(cs:List Value)(k0:Int)(w:World)(h:Cr w g a c bs p)(hl:bs.length≤ 2000000)(hx:aU w gx cs)(hgx:Bl g (jU a bs) gx)(uQ:ox< cs.length)(hv:cs[ox]? =some (.int .i8 k0)):
 Calls Tryz.prog 108 #[.pointer (some ⟨g,0,none⟩),.pointer (some ⟨gx,ox,none⟩)] w (tH (.int .i8) w g gx ox a c bs cs (Gg bs p)):=by
 have x0:=hx.cell hv;have hgl:=hx.lt o_;obtain⟨W,hW⟩:∃W,W=w.alloc (.cells #[.int .u8 (k0%256)] 5):=⟨_,rfl⟩;have hB:Below w.heap.size w W:=by rw[hW];exact b_.alloc n_ _
 have hT:aU W w.heap.size [.int .u8 (k0%256)]:=by rw[hW];exact aU.aR b_
 have HS:Hid (Calls Tryz.prog 154 #[.pointer (some ⟨g,0,none⟩),.pointer (some ⟨w.heap.size,0,none⟩)] W (tH B W g w.heap.size 0 a c bs [.int .u8 (k0%256)] (il bs p))):=Kb g c p w.heap.size 0 a bs _ W (h.below hB) hl hT (h.new n_) (by simp);have HX:=h_ (hx.next o_ hB);have HB:=h_ hB;have HE:=h_ (hx.lt o_);have HV:=h_ hv;clear h hx hB hT hv;rw[hW]at HS;have HW:=h_ hW;clear hW;go_enter Tryz.func108,Tryz.ntmps108;go_wp2_with(go_at_call 154;((with_reducible refine HS.out.mono ?_);rw[←HW.out];rintro e w1 ⟨ht,⟨v,q,hr,rfl,hc,hb⟩|⟨f,hr,rfl,hb⟩⟩<;>have uA:=h_ ht<;>have HR:=h_ hr<;>have iO:=h_ (ht.off HX.out o_ hgx.ne (by have:=HE.out;omega))<;>clear ht hr;all_goals(first|(have y0:=hb.cell (j:=0) rfl;have x1:=iO.cell (List.getElem?_eq_getElem uQ);have z1:=iO.cu uQ;have eK:=h_ hc;have iJ:=h_ hb;clear hc hb)|skip)))
 ·rw[CQ];go_end0;have QD:=uA.inner (dO.below (g:=g) (gx:=gx) HB.out) n_;exact⟨QD.set _ _ (.inr (.inl rfl)),.inl ⟨_,_,by(show cy _ _=_);rw[HR.out];rfl,rfl,eK.bY ((dv.refl (fun k=>k= gx) _).set _ _ rfl) (fun k e=>by subst e;exact hgx),iO.set uQ _⟩⟩
 ·exact tq16
theorem RX{bs:List UInt8}{p q:Nat}{v:UInt8}(h:il bs p= .ok (v,q)):1≤ q:=by
 unfold il qx at h
 split at h
 ·cases h
 ·simp only[cy,Except.ok.injEq,Prod.mk.injEq]at h;omega
theorem J7(v:UInt8):((v.toNat:Int)==1)=(v.toNat==1):=by rw[Bool.eq_iff_iff];simp;omega
theorem Sd(g c p gx ox:Nat)(a:Option Addr)(bs:List UInt8)(cs:List Value)(w:World)(h:Cr w g a c bs p)(hl:bs.length≤ 2000000)(hx:aU w gx cs)(hgx:Bl g (jU a bs) gx)(uQ:ox< cs.length)(hv:cs[ox]? =some (.bool false)):
 Calls Tryz.prog 110 #[.pointer (some ⟨g,0,none⟩),.pointer (some ⟨gx,ox,none⟩)] w (tH .bool w g gx ox a c bs cs (jW bs p)):=by
 have x0:=hx.cell hv;have hgl:=hx.lt o_;obtain⟨W,hW⟩:∃W,W=w.alloc (.cells #[.int .u8 0] 5):=⟨_,rfl⟩;have hB:Below w.heap.size w W:=by rw[hW];exact b_.alloc n_ _
 have hT:aU W w.heap.size [.int .u8 0]:=by rw[hW];exact aU.aR b_
 have HS:Hid (Calls Tryz.prog 154 #[.pointer (some ⟨g,0,none⟩),.pointer (some ⟨w.heap.size,0,none⟩)] W (tH B W g w.heap.size 0 a c bs [.int .u8 0] (il bs p))):=Kb g c p w.heap.size 0 a bs _ W (h.below hB) hl hT (h.new n_) (by simp);have HX:=h_ (hx.next o_ hB);have HB:=h_ hB;have HE:=h_ (hx.lt o_);have HV:=h_ hv;clear h hx hB hT hv;rw[hW]at HS;have HW:=h_ hW;clear hW;go_enter Tryz.func110,Tryz.ntmps110;go_wp2_with(go_at_call 154;((with_reducible refine HS.out.mono ?_);rw[←HW.out];rintro e w1 ⟨ht,⟨v,q,hr,rfl,hc,hb⟩|⟨f,hr,rfl,hb⟩⟩<;>have uA:=h_ ht<;>have HR:=h_ hr<;>have iO:=h_ (ht.off HX.out o_ hgx.ne (by have:=HE.out;omega))<;>clear ht hr;all_goals(first|(have y0:=hb.cell (j:=0) rfl;have x1:=iO.cell (List.getElem?_eq_getElem uQ);have z1:=iO.cu uQ;have eK:=h_ hc;have iJ:=h_ hb;have r1:=hc.box.cell (j:=1) rfl;have hq1:=RX HR.out;have hq2:=hc.le;clear hc hb)|skip)))
 ·have e:((q:Int)-1)=((q-1: Nat):Int):=o_;rw[e];exact⟨rfl,uA.inner (dO.below (g:=g) (gx:=gx) HB.out) n_,.inr ⟨_,by(show cy _ _=_);rw[HR.out];(show(if _ then _ else _)=_);rw[if_pos o_],rfl,.of iO.out rfl⟩⟩
 ·rw[J7];go_end0;have QD:=uA.inner (dO.below (g:=g) (gx:=gx) HB.out) n_;exact⟨QD.set _ _ (.inr (.inl rfl)),.inl ⟨_,_,by(show cy _ _=_);rw[HR.out];(show(if _ then _ else _)=_);rw[if_neg o_],rfl,eK.bY ((dv.refl (fun k=>k= gx) _).set _ _ rfl) (fun k e=>by subst e;exact hgx),iO.set uQ _⟩⟩
 ·exact tq16
def E6(w:World)(g:Nat)(a:Option Addr)(c:Nat)(bs:List UInt8)(r:kQ Nat)(e:Ending)(w':World):Prop:=
 dv (fun k=>k= g∨w.heap.size≤ k) w w'∧((∃(x q:Nat),r= .ok (x,q)∧e= .returned (.int .i64 x)∧Cr w' g a c bs q)∨(∃f,r= .error f∧e= KQ f))
theorem QV(g c p size:Nat)(n0:Int)(a:Option Addr)(bs:List UInt8)(w:World)(h:Cr w g a c bs p)(hl:bs.length≤ 2000000)(hs0:0< size)(hs1:size≤ 1000):
 Calls Tryz.prog 156 #[.pointer (some ⟨g,0,none⟩),.int .i64 n0,.int .i64 size] w (E6 w g a c bs (countP size bs p)):=by
 have x0:=h.box.cell (j:=1) rfl;have hgl:=h.box.lt (by simp);obtain⟨W,hW⟩:∃W,W=w.alloc (.cells #[.int .i64 n0] 3):=⟨_,rfl⟩;have hB:Below w.heap.size w W:=by rw[hW];exact b_.alloc n_ _
 have hT:aU W w.heap.size [.int .i64 n0]:=by rw[hW];exact aU.aR b_
 have HS:Hid (Calls Tryz.prog 109 #[.pointer (some ⟨g,0,none⟩),.pointer (some ⟨w.heap.size,0,none⟩)] W (tH (.int .i64) W g w.heap.size 0 a c bs [.int .i64 n0] (fX bs p))):=Aw g c p w.heap.size 0 a bs _ W (h.below hB) hl hT (h.new n_) (by simp);have HB:=h_ hB;clear h hB hT;rw[hW]at HS;have HW:=h_ hW;clear hW;go_enter Tryz.func156,Tryz.ntmps156;go_wp2_with(go_at_call 109;((with_reducible refine HS.out.mono ?_);rw[←HW.out];rintro e w1 ⟨ht,⟨v,q,hr,rfl,hc,hb⟩|⟨f,hr,rfl,hb⟩⟩<;>have uA:=h_ ht<;>have HR:=h_ hr<;>clear ht hr;all_goals(first|(have y0:=hb.cell (j:=0) rfl;have eK:=h_ hc;have iJ:=h_ hb;have r0:=hc.box.cell (j:=0) rfl;have r1:=hc.box.cell (j:=1) rfl;have r2:=hc.box.cell (j:=2) rfl;have hq:=hc.le;clear hc hb)|skip)))
 ·have QD:Hid (dv (fun k=>k= g∨w.heap.size≤ k) w w1):=h_ ((uA.inner (dO.below (g:=g) (gx:=g) HB.out) n_).mono (fun k _ e=>by rcases e with e|e| e;exact .inl e;exact .inl e;exact .inr e));have HQ:=h_ (show ∀n,dv (fun k=>k= g∨w.heap.size≤ k) w (w1.drewN n)∧Below w1.heap.size w1 (w1.drewN n)from fun n=>⟨QD.trans (.of (below_drewN b_ n)),below_drewN b_ n⟩);clear QD uA;have e1:IntKind.i64.wrap ((bs.length:Int)-q)=((bs.length-q: Nat):Int):=by rw[IntWalk.i64_in _ o_];omega
  have e2:wrap64 (((bs.length-q: Nat):Int)/(size:Int))=(((bs.length-q)/size: Nat):Int):=by
   have h2:(bs.length-q)/size≤ bs.length-q:= Nat.div_le_self _ _;have h1:(((bs.length-q: Nat):Int))/(size:Int)=(((bs.length-q)/size: Nat):Int):=rfl;rw[h1];generalize(bs.length-q)/size= u at h2;unfold wrap64;omega
  have e3:((size:Int)==0)=false:= by simp;omega
  by_cases hneg:v< 0
  ·have hd:decide (v<0)=true:= decide_eq_true hneg;clear e1 e2 e3;go_quiet (fail);go_wp2_with fail;exact⟨rfl,(HQ _).1,.inr ⟨_,by(show cy _ _=_);rw[HR.out];(show(if _ then _ else _)=_);rw[if_pos (.inl hneg)],rfl⟩⟩
  ·have hd:decide (v<0)=false:= decide_eq_false hneg;generalize hD:(bs.length-q)/size= D at e2;have HD:=h_ hD;clear hD;by_cases hgt:(D:Int)<v
   ·have hd2:decide ((D:Int)<v)=true:= decide_eq_true hgt;go_quiet (fail);go_wp2_with fail;exact⟨rfl,(HQ _).1,.inr ⟨_,by(show cy _ _=_);rw[HR.out];(show(if _ then _ else _)=_);rw[if_pos (.inr (by rw[HD.out];omega))],rfl⟩⟩
   ·have hd2:decide ((D:Int)<v)=false:= decide_eq_false hgt;go_quiet (fail);go_wp2_with fail;go_ret;refine⟨(HQ _).1,.inl ⟨v.toNat,q,?_,?_,eK.below (HQ _).2⟩⟩
    ·show cy _ _=_
     rw[HR.out];show(if _ then _ else _)=_
     rw[if_neg (by rw[HD.out];omega)]
    ·rw[Int.toNat_of_nonneg o_];rfl
 ·exact⟨rfl,uA.inner (dO.below (g:=g) (gx:=g) HB.out) n_|>.mono (fun k _ e=>by rcases e with e|e| e;exact .inl e;exact .inl e;exact .inr e),.inr ⟨_,by(show cy _ _=_);rw[HR.out];rfl,rfl⟩⟩
theorem dO.of'{g gx:Nat}{w w':World}(h:dv (fun k=>k= g∨w.heap.size≤ k) w w'):dO g gx w w':=h.mono fun k _ e=>by rcases e with e|e;exact .inl e;exact .inr (.inr e)
theorem count_le{bs:List UInt8}{size p v q:Nat}(h:countP size bs p= .ok (v,q)):v≤ (bs.length-q)/size:= by
 unfold countP at h;cases hs:fX bs p with
 |error e=>rw [hs]at h;cases h
 |ok y=>
  obtain⟨b,m⟩:=y;rw[hs]at h;simp only[cy]at h
  split at h
  ·cases h
  ·simp only[Except.ok.injEq,Prod.mk.injEq]at h;obtain⟨rfl,rfl⟩:=h;omega
def Ej(cs:List Value)(o:Nat)(xs:List Int):List Value:=cs.take o++(xs.map (.int .i64)++cs.drop (o+xs.length))
theorem Gx(cs:List Value)(o:Nat):Ej cs o []=cs:= by unfold Ej;simp
theorem kr{cs:List Value}{o:Nat}{xs:List Int}(h:o+ xs.length≤cs.length):(Ej cs o xs).length=cs.length:= by unfold Ej;simp;omega
theorem C7{cs:List Value}{o:Nat}{xs:List Int}(h:o+ xs.length<cs.length)(v:Int):(Ej cs o xs).set (o+xs.length) (.int .i64 v)=Ej cs o (xs++[v]):=by
 have hl:(cs.take o).length=o:= by rw[List.length_take];omega
 unfold Ej;rw[List.set_append,if_neg (by rw[hl];omega),hl,Nat.add_sub_cancel_left,List.set_append,if_neg (by simp),List.length_map,Nat.sub_self,List.drop_eq_getElem_cons h,List.set_cons_zero];simp[Nat.add_assoc]
theorem qf{α:Type}{one:List UInt8→Nat→ kQ α}{l:List UInt8}:∀ {k p q q':Nat} {xs:List α} {v:α},ej one k l p= .ok (xs,q)→one l q= .ok (v,q')→ej one (k+1) l p= .ok (xs++[v],q')
 |0,p,q,q',xs,v,h,h2=>by
  simp only[ej,Except.ok.injEq,Prod.mk.injEq]at h;obtain⟨rfl,rfl⟩:=h;simp only[ej,h2,cy,List.nil_append]
 |k+ 1,p,q,q',xs,v,h,h2=>by
  simp only[ej]at h;cases ho:one l p with
  |error e=>rw [ho]at h;cases h
  |ok y=>
   obtain⟨x,m⟩:=y;rw[ho]at h;simp only[cy]at h;cases ht:ej one k l m with
   |error e=>rw [ht]at h;cases h
   |ok z=>
    obtain⟨ys,m2⟩:=z;rw[ht]at h;simp only[Except.ok.injEq,Prod.mk.injEq]at h;obtain⟨rfl,rfl⟩:=h;have:=qf ht h2;rw[ej,ho];simp only[cy];rw[this];simp
theorem qd{α:Type}{one:List UInt8→Nat→ kQ α}{l:List UInt8}:∀ {k m p q f:Nat} {xs:List α},ej one k l p= .ok (xs,q)→one l q= .error f→k< m→ej one m l p= .error f
 |0,0,_,_,_,_,_,_,hm=>absurd hm o_
 |0,m+1,p,q,f,xs,h,h2,_=>by
  simp only[ej,Except.ok.injEq,Prod.mk.injEq]at h;obtain⟨rfl,rfl⟩:=h;simp only[ej,h2,cy]
 |k+ 1,0,_,_,_,_,_,_,hm=>absurd hm o_
 |k+ 1,m+1,p,q,f,xs,h,h2,hm=>by
  simp only[ej]at h;cases ho:one l p with
  |error e=>rw [ho]at h;cases h
  |ok y=>
   obtain⟨x,m1⟩:=y;rw[ho]at h;simp only[cy]at h;cases ht:ej one k l m1 with
   |error e=>rw [ht]at h;cases h
   |ok z=>
    obtain⟨ys,m2⟩:=z;rw[ht]at h;simp only[Except.ok.injEq,Prod.mk.injEq]at h;obtain⟨rfl,rfl⟩:=h;have:=qd (m:=m) ht h2 o_;rw[ej,ho];simp only[cy];rw[this]
theorem Fe{α β γ:Type}(x:kQ α)(f:α→ Nat→kQ β)(g:β→ Nat→kQ γ):cy (cy x f) g=cy x (fun a q=>cy (f a q) g):=by cases x<;>rfl
theorem Ff{α β:Type}(a:α)(q:Nat)(f:α→ Nat→kQ β):cy (.ok (a,q)) f=f a q:=rfl
theorem aU.yw{g:Nat}:∀(vs:List Value) (i:Nat) (w:World) (cs:List Value),aU w g cs→i+ vs.length≤cs.length→ aU (w.setCells g i vs) g (cs.take i++(vs++cs.drop (i+vs.length)))
 |[],i,w,cs,h,_=>by rw[World.setCells];simpa using h
 |v:: vs,i,w,cs,h,hl=>by
  rw[List.length_cons]at hl;have h2:=aU.yw vs (i+1) _ _ (h.set (i:=i) o_ v) (by rw[List.length_set];omega);rw[World.setCells];have e:(cs.set i v).take (i+1)++(vs++(cs.set i v).drop (i+1+ vs.length))=cs.take i++(v::vs++ cs.drop (i+(v::vs).length)):=by
   rw[List.take_set,List.drop_set_of_lt o_,List.length_cons,List.take_succ_eq_append_getElem o_,List.set_append,if_neg (by rw[List.length_take];omega)];simp[List.length_take,Nat.min_eq_left (show i≤cs.length by omega),Nat.add_assoc,Nat.add_comm 1]
  rw[e]at h2;exact h2
theorem aU.whole{g:Nat}{w:World}{cs vs:List Value}(h:aU w g cs)(hl:vs.length= cs.length):aU (w.setCells g 0 vs) g vs:=by
 have:=aU.yw vs 0 w cs h o_;simpa[hl]using this
theorem dv.yw{S:Nat→ Prop}{g:Nat}(hg:S g):∀(vs:List Value) (i:Nat) {w w':World},dv S w w'→dv S w (w'.setCells g i vs)
 |[],_,_,_,h=>h
 |v:: vs,i,_,_,h=>dv.yw hg vs (i+1) (h.set ⟨g,i,none⟩ v hg)
end Go.Proofs.YtfdmhpohfjbpfaaGreat
