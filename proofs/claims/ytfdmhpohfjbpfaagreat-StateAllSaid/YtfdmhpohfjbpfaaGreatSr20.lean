import Derived.Test.YtfdmhpohfjbpfaaGreatSrRefRepSpend
import Derived.Test.YtfdmhpohfjbpfaaGreatSrRefRepKeep
import Derived.Test.YtfdmhpohfjbpfaaGreatSrRefRepGone
import Derived.Test.YtfdmhpohfjbpfaaGreatSrRefRepBack
set_option linter.unusedVariables false
set_option linter.unusedSimpArgs false
namespace Go.Proofs.YtfdmhpohfjbpfaaGreat
open Go.ChangeShapes Go.WideShapes Go.ChangeAt Go.RowKit
set_option maxRecDepth 100000
set_option maxHeartbeats 16000000
theorem Cu(s:St)(r:Raw)(B:Nat)(sh ep le sp:Int)(cl:Bool)(w:World)(h:aX w B r s)(cC:s.ax.length≤ 800)(hl2:s.ai.length≤ 900)(cS:s.cd.length≤ 900)(hl4:s.aP.length≤ 900)(hok:cp s=true):
 Calls Tryz.prog 51 #[r.agg,.int .i64 sh,.int .i64 ep,.int .i64 le,.int .i64 sp,.bool cl] w (gb w (dN s sh ep le sp cl)):=by
 have hno:¬(cp s=false):=by rw[hok];simp
 obtain⟨h1,h2,h3,h4⟩:=bI hok;have hfit:=bU h1 h2;have hfl:=Q3 hok sh ep le;rcases oP:fE s le with⟨⟨i0,i1,i2,i3,i4,i5,i6⟩,ok⟩;rw[oP]at hfl;simp only at hfl;have Ro:dN s sh ep le sp cl=match s.ai.find? (gV sh ep le)with
  |none=> (bG s,180)
  |some x=>
   if sp<x.bN∨ x.size<sp then(bG s,2)
   else if cl=false∧ sp<x.size then(bG {s with ai:=dP le sp s.ai},0)
   else(bG {s with ai:=ib le s.ai,ax:=if cl=true∧ (bf s.ax x.aC).1.gone=false then(mE s.ax (CK s x sp)).1 else s.ax},0):=by
  unfold dN;rw[if_neg hno];rfl
 cases ok with
 |false=>
  rw[if_neg (by simp)]at hfl;rw[Ro,hfl];exact AY s r B sh ep le sp cl w h cC hl2 cS hl4 hok i0 i1 i2 i3 i4 i5 i6 oP
 |true=>
  obtain⟨-,hx,he0⟩:=Iu oP;simp only at he0;subst he0;have hpos:=List.length_pos_of_mem hx;by_cases g1:i2= sh
  ·subst g1;by_cases g2:i3= ep
   ·subst g2;rw[if_pos (by simp)]at hfl;rw[Ro,hfl];simp only;obtain⟨y1,y2,y3,y4,y5⟩:=wO h2 hx;simp only at y1 y2 y3 y4 y5;by_cases c1:sp< i6
    ·rw[if_pos (.inl c1)];exact AW s r B i2 i3 i0 sp cl w h cC hl2 cS hl4 hok i0 i1 i4 i5 i6 oP c1
    by_cases c2:i5< sp
    ·rw[if_pos (.inr c2)];exact AX s r B i2 i3 i0 sp cl w h cC hl2 cS hl4 hok i0 i1 i4 i5 i6 oP o_ c2
    rw[if_neg o_];by_cases c3:cl= false∧sp< i5
    ·rw[if_pos c3];have acs:=uS h2 hx (show i6≤sp by omega) c3.2;exact yu s r B i2 i3 i0 sp cl w h cC hl2 cS hl4 hok i0 i1 i4 i5 i6 oP c3.1 o_ c3.2 (bU h1 acs) hpos
    rw[if_neg c3];have fk:bf s.ax i1=((bf s.ax i1).1,(bf s.ax i1).2):=rfl;have BP:=wF h1 y1;have hbk:=(cJ.1 h1).1 _ BP.1;have hbk2:=kq hbk.2;have hne:s.ax≠ []:=List.ne_nil_of_mem BP.1;unfold CK;simp only;generalize(bf s.ax i1).1=t at fk hbk2 ⊢;generalize(bf s.ax i1).2=fok at fk;obtain⟨cM,bH,aN,aL,fK⟩:=t;simp only at hbk2;cases cl with
    |false=>
     rw[if_neg (by simp)];exact AV s r B i2 i3 i0 sp false w h cC hl2 cS hl4 hok i0 i1 i4 i5 i6 oP cM bH aN aL fK fok fk rfl o_ (by simp at c3;omega)
    |true=>
     cases fK with
     |true=>
      rw[if_neg (by simp)];exact AU s r B i2 i3 i0 sp true w h cC hl2 cS hl4 hok i0 i1 i4 i5 i6 oP cM bH aN aL fok fk rfl o_ o_
     |false=>
      rw[if_pos (by simp)];exact AR s r B i2 i3 i0 sp true w h cC hl2 cS hl4 hok i0 i1 i4 i5 i6 oP cM bH aN aL fok fk rfl o_ o_ o_ o_ hbk2.2.2.1 hbk2.2.2.2.1 hne
   ·rw[if_neg (by simp[g2])]at hfl;rw[Ro,hfl];exact Ew s r B i2 ep i0 sp cl w h cC hl2 cS hl4 hok i0 i1 i3 i4 i5 i6 oP g2
  ·rw[if_neg (by simp[g1])]at hfl;rw[Ro,hfl];exact Ex s r B sh ep i0 sp cl w h cC hl2 cS hl4 hok i0 i1 i2 i3 i4 i5 i6 oP g1
structure Cb(w:World)(D:Nat)(a:Option Addr)(c:Nat)(bs:List UInt8):Prop where
 can:Can w D 5 1 a bs.length c (bs.map B)
 lY:∀b o s,a=some ⟨b,o,s⟩→D≤ b∧b< w.heap.size
theorem Cb.nil(w:World)(D:Nat):Cb w D none 0 []:=⟨Can.nil _ _ _ _,fun _ _ _ h=>by cases h⟩
theorem Cb.below{w w':World}{D c:Nat}{a:Option Addr}{bs:List UInt8}(h:Cb w D a c bs)(hb:Below w.heap.size w w'):Cb w' D a c bs:=
 ⟨nD h.can (cx.below hb n_:cx D w.heap.size w w') (fun b o s e=> .inl (h.lY b o s e).1) n_ n_,fun b o s e=>⟨(h.lY b o s e).1,Nat.lt_of_lt_of_le (h.lY b o s e).2 hb.size⟩⟩
structure G6(a a':Option Addr)(w w':World):Prop where
 os:w'.os= w.os
 tape:w'.tape= w.tape
 output:w'.output= w.output
 size:w.heap.size≤ w'.heap.size
 bY:∀k,k<w.heap.size→ (∀o s,a≠some ⟨k,o,s⟩)→w'.heap[k]? =w.heap[k]?
 eZ:cg w.heap.size a a'
theorem G6.refl(a:Option Addr)(w:World):G6 a a w w:=⟨rfl,rfl,rfl,Nat.le_refl _,fun _ _ _=>rfl,cg.self _ _⟩
theorem G6.trans{a a' a'':Option Addr}{w w' w'':World}(h:G6 a a' w w')(h2:G6 a' a'' w' w''):G6 a a'' w w'':=
 ⟨h2.os.trans h.os,h2.tape.trans h.tape,h2.output.trans h.output,Nat.le_trans h.size h2.size,fun k hk ha=>by
  rw[h2.bY k (Nat.lt_of_lt_of_le hk h.size) (fun o s e=>by
   rcases h.eZ k o s e with h1|⟨o',s',h1⟩
   ·omega
   ·exact ha o' s' h1)]
  exact h.bY k hk ha,fun b o s e=>by
  rcases h2.eZ b o s e with h1|⟨o',s',h1⟩
  ·exact .inl (Nat.le_trans h.size h1)
  ·exact h.eZ b o' s' h1⟩
theorem G6.pre{a a':Option Addr}{w W w':World}(h:G6 a a' W w')(hb:Below w.heap.size w W):G6 a a' w w':=
 ⟨h.os.trans hb.os,h.tape.trans hb.tape,h.output.trans hb.output,Nat.le_trans hb.size h.size,fun k hk ha=>by rw[h.bY k (Nat.lt_of_lt_of_le hk hb.size) ha,hb.block k hk],h.eZ.mono hb.size⟩
theorem G6.Qj{w w':World}{a':Option Addr}(h:G6 none a' w w'):Below w.heap.size w w':=⟨h.os,h.tape,h.output,h.size,fun k hk=>h.bY k hk (fun o s e=>by cases e)⟩
theorem G6.off{w w':World}{x:Nat}{a a':Option Addr}(hg:G6 a a' w w')(hx:x< w.heap.size)(ha:∀o s,a≠some ⟨x,o,s⟩):∀o s,a'≠some ⟨x,o,s⟩:=fun o s e=>by
 rcases hg.eZ x o s e with h1|⟨o',s',h1⟩
 ·omega
 ·exact ha o' s' h1
theorem Cb.step{w W0 w':World}{D:Nat}{a a':Option Addr}{c c':Nat}{bs ns:List UInt8}(hb:Below w.heap.size w W0)(di:Can w' D 5 1 a' (bs.length+ns.length) c' (bs.map B++ns.map B))(hg:W0.grownBy w' (Value.slice a bs.length c).ownBlock)(hn:cg W0.heap.size a a')(hown:∀b o s,a'=some ⟨b,o,s⟩→D≤ b)(hlt:∀b o s,a'=some ⟨b,o,s⟩→b< w'.heap.size):
 Cb w' D a' c' (bs++ns)∧G6 a a' w w':=by
 have ow:∀k,(∀o s,a≠some ⟨k,o,s⟩)→some k≠(Value.slice a bs.length c).ownBlock:=fun k hk e=>by
  cases a with
  |none=> simp[Value.ownBlock]at e
  |some ad=>
   obtain⟨y,u,v⟩:=ad;simp[Value.ownBlock]at e;subst e;exact hk u v rfl
 refine⟨⟨by rw[List.length_append,List.map_append];exact di,fun b o s e=>⟨hown b o s e,hlt b o s e⟩⟩,⟨hg.os.trans hb.os,hg.tape.trans hb.tape,hg.output.trans hb.output,Nat.le_trans hb.size hg.size,fun k hk ha=> ?_,hn.mono hb.size⟩⟩;rw[hg.block k (Nat.lt_of_lt_of_le hk hb.size) (ow k ha),hb.block k hk]
theorem JB{P:Program}{w:World}{ops:Array Oper}{rest:List Oper}{o:Oper}{ac:Act}{Q:Exit→ Act→World→ Prop}{t e:TypeId}{size bytes:Nat}(el:sG P t e size bytes)(hgd:o.guard= none)(s x:Operand)(ho:o.op= .call {callee:= .builtin .append,args:= #[s,x],argTypes:= #[t,t]})(D:Nat)(a:Option Addr)(n c:Nat)(xs:List Value)(hs:ac.eval s= .slice a n c)(di:Can w D e size a n c xs)(ad:Option Addr)(m k:Nat)(news:List Value)(hx:ac.eval x= .slice ad m k)(hl:news.length= m*size)(hr:Row w ad news)(h1:∀u∈ news,u.oneCell'=true)(hbytes:(n+m)*bytes≤ 140737488355328)(hD:D≤ w.heap.size)(FL:∀b o s,a=some ⟨b,o,s⟩→D≤ b∧b< w.heap.size)(h:∀a' c' w',Can w' D e size a' (n+m) c' (xs++news)→w.grownBy w' (Value.slice a n c).ownBlock→cg w.heap.size a a'→(∀b o s,a'=some ⟨b,o,s⟩→D≤ b)→(∀b o s,a'=some ⟨b,o,s⟩→b< w'.heap.size)→wpList P ops Q rest (ac.put o.dst (.slice a' (n+m) c')) w'):wpList P ops Q (o::rest) ac w:=by
 refine wpList_plain hgd fun K hK=> ?_
 have:=GP (ops:=ops) (K:=K) (Q:=Q) (E:=True) el hgd s x ho D a n c xs hs di ad m k news hx hl hr h1 hbytes hD FL (fun a' c' w' h2 h3 h4 h5 h6=>hK _ _ (h a' c' w' h2 h3 h4 h5 h6));have hw:Region.wanted o (yielded ops ac.tmps)=true:= by simp[Region.wanted,hgd]
 rw[if_pos hw]at this;exact this
def SM(w:World)(D:Nat)(a:Option Addr)(bs:List UInt8)(e:Ending)(w':World):Prop:= ∃a' c',e= .returned (.slice a' bs.length c')∧Cb w' D a' c' bs∧G6 a a' w w'
def Uo(w:World)(D:Nat)(a:Option Addr)(bs ns:List UInt8)(k:Nat)(e:Ending)(w':World):Prop:= ∃l a' c',e= .returned (.slice a' l.length c')∧l= bs++ns∧ l.length≤bs.length+ k∧Cb w' D a' c' l∧G6 a a' w w'
theorem SM.l{w w':World}{D k:Nat}{a:Option Addr}{bs ns:List UInt8}{e:Ending}(h:SM w D a (bs++ns) e w')(hk:ns.length≤ k):Uo w D a bs ns k e w':=by
 obtain⟨a',c',h1,h2,h3⟩:=h;exact⟨_,a',c',h1,rfl,by rw[List.length_append];omega,h2,h3⟩
theorem Cb.new{w:World}{D c:Nat}{a:Option Addr}{bs:List UInt8}(h:Cb w D a c bs):∀o s,a≠some ⟨w.heap.size,o,s⟩:=fun o s e=>by have:=(h.lY _ o s e).2;omega
end Go.Proofs.YtfdmhpohfjbpfaaGreat
