import Derived.Outline
import Derived.OpenShut
import Derived.ShutString
import Derived.ChangeOld
import Derived.BigQuiet
import Derived.Deep.QuietTactic
import Derived.Deep.DeepFit
import Derived.StillTailTactics
import Derived.Deep.RegionWith
import Derived.ArgAppend
import Derived.Lib.SlBytesConst
import Derived.Deep.Slices
import Derived.Carry
import Derived.SizedLaws
import Derived.Test.YtfdmhpohfjbpfaaGreatSrW
set_option linter.unusedVariables false
set_option linter.unusedSimpArgs false
namespace Go.Proofs.YtfdmhpohfjbpfaaGreat
open Go.ChangeShapes Go.WideShapes Go.ChangeAt Go.RowKit
set_option maxRecDepth 100000
set_option maxHeartbeats 16000000
theorem dZ{k:IntKind}{a b:Int}(h:a= b):Ending.returned (.int k a)= .returned (.int k b):=by rw[h]
theorem bZ{a b:Bool}(h:a= b):Ending.returned (.bool a)= .returned (.bool b):=by rw[h]
def Row(w:World)(a:Option Addr)(xs:List Value):Prop:=
 xs=[]∨∃b o,a=some ⟨b,o,none⟩∧∀i (h:i< xs.length),w.cell? ⟨b,o+i,none⟩=some xs[i]
abbrev iu(w:World)(a:Option Addr)(l:List UInt8):Prop:= Row w a (l.map B)
theorem Row.nil(w:World)(a:Option Addr):Row w a []:= .inl rfl
theorem Row.at{w:World}{a:Option Addr}{xs:List Value}(h:Row w a xs){k:Nat}(hk:k< xs.length):
 ∃b o,a=some ⟨b,o,none⟩∧∀i (h:i< xs.length),w.cell? ⟨b,o+i,none⟩=some xs[i]:=by
 rcases h with rfl|h
 ·simp at hk
 ·exact h
theorem iu.at{w:World}{a:Option Addr}{l:List UInt8}(h:iu w a l){k:Nat}(hk:k< l.length):
 ∃b o,a=some ⟨b,o,none⟩∧∀i (h:i< l.length),w.cell? ⟨b,o+i,none⟩=some (.int .u8 (l[i].toNat:Int)):=by
 obtain⟨b,o,ha,hc⟩:=Row.at h (k:=k) (by simpa using hk);exact⟨b,o,ha,fun i hi=>by have:=hc i (by simpa using hi);rw[List.getElem_map]at this;exact this⟩
theorem LR:maxLen= 9223372036854775807:=d_
theorem bD{n:Nat}(h:n≤ 1048576):n≤ maxLen:=Nat.le_trans h d_
theorem cX{n:Nat}(h:n≤ maxLen):n≤ 9223372036854775807:=LR▸ h
structure sG(P:Program)(t e:TypeId)(size bytes:Nat):Prop where
 under:P.underlying t=some (.slice e)
 info:∃i z,P.info? e=some i∧i.zero= some z∧i.size= size∧i.bytes= bytes∧z.cells.size= size
 pos:0< size
 oJ:0< bytes
theorem run_append_nil{P:Program}{w:World}(base:Nat)(t ty e:TypeId)(i:TypeInfo)(size:Nat)(ht:P.underlying t=some (.slice e))(hi:P.info? e=some i)(v:Value)(n c:Nat)(xs:List Value)(hown:w.ownsRow base e size v n xs):
 (Builtin.append_ #[t,t] ty #[v,.slice none 0 c]).run P w= .ok v w:=by
 rcases hown.2 with⟨rfl,rfl⟩|⟨g,cap,cur,rfl,_,_,hnc,_⟩
 ·simp[Builtin.append_,run_underlying ht,sizeOf,typeInfo,hi,Builtin.lenOf,Builtin.firstCells]
 ·simp[Builtin.append_,run_underlying ht,sizeOf,typeInfo,hi,Builtin.lenOf,Builtin.firstCells,hnc,storeCells]
theorem eN{w:World}{base:Nat}{e:TypeId}{size:Nat}{v:Value}{n:Nat}{xs:List Value}(h:w.ownsRow base e size v n xs):
 ∃a c,v= .slice a n c∧n≤ c∧c≤ maxLen∧(a=none→ c=0):=by
 rcases h.2 with⟨rfl,rfl⟩|⟨g,cap,cur,rfl,_,_,hnc,hm,_⟩
 ·exact⟨none,0,rfl,Nat.le_refl _,Nat.zero_le _,fun _=>rfl⟩
 ·exact⟨_,cap,rfl,hnc,hm,fun h=>by simp at h⟩
theorem jO{w:World}{base:Nat}{e:TypeId}{size:Nat}{a:Option Addr}{n c:Nat}{xs:List Value}(h:w.ownsRow base e size (.slice a n c) n xs):Row w a xs:=by
 obtain⟨hl,h⟩:=h;rcases h with⟨hv,rfl⟩|⟨g,cap,cur,hv,_,hg,hnc,hm,hs,ht⟩
 ·exact .inl (List.eq_nil_of_length_eq_zero (by simpa using hl))
 ·simp only[Value.slice.injEq]at hv;obtain⟨rfl,_,rfl⟩:=hv;refine .inr ⟨g,0,rfl,fun i hi=> ?_⟩;subst ht;have hi2:i< n*size:= by simp at hi;omega
  have h2:n* size≤cur.size:= by rw[hs];exact Nat.mul_le_mul_right _ hnc
  simp only[World.cell?,hg,Nat.zero_add,Option.isSome_none,Bool.false_eq_true,if_false];rw[Array.getElem?_eq_getElem o_];simp
theorem tq1 {P:Prop}(h:P:=by
 simp only[Option.some.injEq]at ha;subst ha;obtain⟨hj1,rfl⟩:=List.getElem?_eq_some_iff.1 hj;have:=hc j hj1;by_cases h0:j= 0
 ·subst h0;simpa[Addr.add]using this
 ·simpa[Addr.add,h0]using this):P:=h
theorem eX{P:Program}{w:World}{ops:Array Oper}{rest:List Oper}{o:Oper}{a:Act}{Q:Exit→ Act→World→ Prop}{t e:TypeId}{size bytes:Nat}(el:sG P t e size bytes)(hgd:o.guard= none)(s x:Operand)(ho:o.op= .call {callee:= .builtin .append,args:= #[s,x],argTypes:= #[t,t]})(base:Nat)(v:Value)(n:Nat)(xs:List Value)(hs:a.eval s=v)(hown:w.ownsRow base e size v n xs)(ad:Option Addr)(m c:Nat)(news:List Value)(hx:a.eval x= .slice ad m c)(hl:news.length= m*size)(hr:Row w ad news)(h1:∀u∈ news,u.oneCell'=true)(hbytes:(n+m)*bytes≤ 140737488355328)(hbase:base≤ w.heap.size)(h:∀a' c' w',w'.ownsRow base e size (.slice a' (n+m) c') (n+m) (xs++news)→w.grownBy w' v.ownBlock→wpList P ops Q rest (a.put o.dst (.slice a' (n+m) c')) w'):wpList P ops Q (o::rest) a w:=by
 obtain⟨i,z,hi,hz,hsize,hby,hzs⟩:=el.info;have hb:=el.oJ;have h63:n+ m≤maxLen:= by
  have:n+ m≤(n+m)*bytes:= Nat.le_mul_of_pos_right _ hb;unfold maxLen;omega
 cases ad with
 |some ad=>
  refine wpList_append_own w hgd s x t ho base e i z size bytes el.under hi hz hsize hby hzs el.pos v n xs hs hown ad m c news hx hl ?_ h1 h63 hbytes hbase ?_
  ·intro j u hj;rcases hr with rfl|⟨b,o,ha,hc⟩
   ·simp at hj
   ·exact tq1
  ·intro v' w' ho' hg' _;obtain⟨a',c',rfl,_⟩:=eN ho';exact h a' c' w' ho' hg'
 |none=>
  rcases hr with rfl|⟨b,o,ha,hc⟩
  ·have hm:m= 0:=by
    have hp:=el.pos;rcases Nat.eq_zero_or_pos m with h|h
    ·exact h
    ·have:=Nat.mul_pos h hp;simp at hl;omega
   subst hm;refine wpList_plain hgd fun K hK=> ?_
   unfold Oper.wp execOp;have YB:=run_append_nil (P:=P) (w:=w) base t o.type e i size el.under hi v n c xs hown;simp only[ho,resolve,invoke,builtin,Sem.run_bind,Sem.run_pure,Result.andThen_ok,List.map_toArray,List.map_cons,List.map_nil,hs,hx,YB];obtain⟨a',c',rfl,_⟩:=eN hown;refine hK _ _ (h a' c' w ?_ ⟨rfl,rfl,rfl,Nat.le_refl _,fun _ _ _=>rfl⟩);rw[Nat.add_zero,List.append_nil];exact hown
  ·simp at ha
theorem Row.lt{w:World}{b o:Nat}{xs:List Value}(h:Row w (some ⟨b,o,none⟩) xs)(h0:xs≠ []):b< w.heap.size:=by
 rcases h with h|⟨b',o',ha,hc⟩
 ·exact absurd h h0
 ·simp at ha;obtain⟨rfl,rfl⟩:=ha;exact World.block_lt_of_cell? w _ (hc 0 (List.length_pos_iff.2 h0))
theorem Row.get{w:World}{a:Option Addr}{xs:List Value}{k:Nat}{x:Value}(h:Row w a xs)(hk:xs[k]? =some x):
 ∃b o,a=some ⟨b,o,none⟩∧w.cell? ⟨b,o+k,none⟩=some x:=by
 obtain⟨hlt,rfl⟩:=List.getElem?_eq_some_iff.1 hk;obtain⟨b,o,rfl,hc⟩:=h.at hlt;exact⟨b,o,rfl,hc k hlt⟩
theorem Row.below{w w':World}{a:Option Addr}{xs:List Value}(h:Row w a xs)(hb:Below w.heap.size w w'):Row w' a xs:=by
 by_cases h0:xs= []
 ·exact .inl h0
 ·rcases h with h|⟨b,o,rfl,hc⟩
  ·exact absurd h h0
  ·have hlt:=Row.lt (.inr ⟨b,o,rfl,hc⟩) h0;exact .inr ⟨b,o,rfl,fun i hi=>(hb.cell (p:=⟨b,o+i,none⟩) hlt).trans (hc i hi)⟩
theorem Row.alloc{w:World}{a:Option Addr}{xs:List Value}(h:Row w a xs)(o:Obj):Row (w.alloc o) a xs:=h.below (b_.alloc n_ o)
theorem Row.drew{w:World}{a:Option Addr}{xs:List Value}(h:Row w a xs):Row w.drew a xs:=h
theorem Row.Ay{w:World}{g:Nat}{cs:Array Value}{e:TypeId}{f:Nat× Nat}(h:w.heap[g]? =some (.cells cs e f)):Row w (some ⟨g,0,none⟩) cs.toList:=by
 refine .inr ⟨g,0,rfl,fun i hi=> ?_⟩;simp only[World.cell?,h,Nat.zero_add,Option.isSome_none,Bool.false_eq_true,if_false];rw[Array.getElem?_eq_getElem (by simpa using hi)];simp
theorem Row.new(w:World)(cs:Array Value)(e:TypeId)(f:Nat× Nat):Row (w.alloc (.cells cs e f)) (some ⟨w.heap.size,0,none⟩) cs.toList:=Row.Ay (heap_alloc_new w _)
theorem Row.Pj{w:World}{g:Nat}{xs:List Value}(h:Row w (some ⟨g,0,none⟩) xs){p:Addr}(hp:p.block≠ g)(v:Value):Row (w.setCell p v) (some ⟨g,0,none⟩) xs:=by
 rcases h with h|⟨b,o,ha,hc⟩
 ·exact .inl h
 ·simp only[Option.some.injEq,Addr.mk.injEq,and_true]at ha;obtain⟨rfl,rfl⟩:=ha;exact .inr ⟨g,0,rfl,fun i hi=>(World.cell?_setCell_other w p _ v (fun e=>hp (congrArg Addr.block e))).trans (hc i hi)⟩
theorem Row.take{w:World}{a:Option Addr}{xs:List Value}(h:Row w a xs)(j:Nat):Row w a (xs.take j):=by
 rcases h with rfl|⟨b,o,ha,hc⟩
 ·exact .inl (by simp)
 ·exact .inr ⟨b,o,ha,fun i hi=>by
   have hi2:i< xs.length:=by simp at hi;omega
   rw[hc i hi2];simp⟩
theorem Row.drop{w:World}{b o:Nat}{xs:List Value}(h:Row w (some ⟨b,o,none⟩) xs)(j:Nat):Row w (some ⟨b,o+j,none⟩) (xs.drop j):=by
 rcases h with rfl|⟨b',o',ha,hc⟩
 ·exact .inl (by simp)
 ·simp only[Option.some.injEq,Addr.mk.injEq,and_true]at ha;obtain⟨rfl,rfl⟩:=ha
  exact .inr ⟨b,o+j,rfl,fun i hi=>by
   have hi2:j+ i<xs.length:= by simp at hi;omega
   have:=hc (j+i) hi2
   rw[Nat.add_assoc,this];simp⟩
theorem Row.jH{w:World}{a:Option Addr}{xs:List Value}{k:Nat}{x:Value}(h:Row w a xs)(hk:xs[k]? =some x):
 ∃b o,a=some ⟨b,o,none⟩∧∀w',Below w.heap.size w w'→w'.cell? ⟨b,o+k,none⟩=some x:=by
 obtain⟨b,o,rfl,hc⟩:=h.get hk;exact⟨b,o,rfl,fun w' hb=>(hb.cell (p:=⟨b,o+k,none⟩) (World.block_lt_of_cell? w _ hc)).trans hc⟩
theorem Below.app{B0:Nat}{w0 w w':World}{e:TypeId}{size n:Nat}{v:Value}{xs:List Value}(h:Below B0 w0 w)(hown:w.ownsRow B0 e size v n xs)(hg:w.grownBy w' v.ownBlock)(hB:B0≤ w.heap.size):Below B0 w0 w':=
 h.grown hg hB fun k hk=>(hown.lt k hk).1
theorem lh{α:Type}{cells:α→ List Value}{size:Nat}(hs:∀x,(cells x).length=size):∀ {xs:List α} {i r:Nat},r<size→ (xs.flatMap cells)[i*size+ r]? =(xs[i]?).bind fun x=>(cells x)[r]?
 |[],i,r,_=>by simp
 |x:: xs,0,r,hr=>by
  simp only[List.flatMap_cons,Nat.zero_mul,Nat.zero_add,List.getElem?_cons_zero,Option.bind_some];rw[List.getElem?_append_left (by rw[hs];exact hr)]
 |x:: xs,i+1,r,hr=>by
  simp only[List.flatMap_cons,List.getElem?_cons_succ];rw[List.getElem?_append_right (by rw[hs,Nat.succ_mul];omega),hs,Nat.succ_mul,show i*size+ size+r- size=i* size+r from by omega];exact lh hs hr
theorem kg{α:Type}{cells:α→ List Value}{size:Nat}(hs:∀x,(cells x).length=size)(xs:List α):(xs.flatMap cells).length=xs.length* size:=by
 induction xs with
 |nil=> simp
 |cons x xs ih=>rw [List.flatMap_cons,List.length_append,ih,hs,List.length_cons,Nat.succ_mul];omega
theorem Row.holds{w:World}{ad:Addr}{xs:List Value}(h:Row w (some ad) xs):∀j u,xs[j]? =some u→w.cell? (ad.add j)=some u:=by
 intro j u hj;rcases h with rfl|⟨b,o,ha,hc⟩
 ·simp at hj
 ·exact tq1
def Can(w:World)(B:Nat)(e:TypeId)(size:Nat)(a:Option Addr)(n c:Nat)(xs:List Value):Prop:=
 xs.length=n* size∧n≤ maxLen∧((n=c∧ Row w a xs)∨w.ownsRow B e size (.slice a n c) n xs)
theorem Can.nil(w:World)(B:Nat)(e:TypeId)(size:Nat):Can w B e size none 0 0 []:=⟨by simp,Nat.zero_le _,.inl ⟨rfl,.inl rfl⟩⟩
theorem Can.empty(w:World)(B:Nat)(e:TypeId)(size:Nat)(a:Option Addr):Can w B e size a 0 0 []:=⟨by simp,Nat.zero_le _,.inl ⟨rfl,.inl rfl⟩⟩
theorem Can.full{w:World}{B:Nat}{e:TypeId}{size:Nat}{a:Option Addr}{n:Nat}{xs:List Value}(h:Row w a xs)(hl:xs.length= n*size)(hn:n≤ maxLen):Can w B e size a n n xs:=⟨hl,hn,.inl ⟨rfl,h⟩⟩
theorem Can.row{w:World}{B:Nat}{e:TypeId}{size:Nat}{a:Option Addr}{n c:Nat}{xs:List Value}(h:Can w B e size a n c xs):Row w a xs:=by
 rcases h.2.2 with⟨_,h⟩|h
 ·exact h
 ·exact jO h
theorem Can.le{w:World}{B:Nat}{e:TypeId}{size:Nat}{a:Option Addr}{n c:Nat}{xs:List Value}(h:Can w B e size a n c xs):n≤ c:=by
 rcases h.2.2 with⟨h,_⟩|h
 ·omega
 ·obtain⟨a',c',hv,hl,_⟩:=eN h;simp only[Value.slice.injEq]at hv;omega
theorem Can.none{w:World}{B:Nat}{e:TypeId}{size:Nat}{a:Option Addr}{n c:Nat}{xs:List Value}(h:Can w B e size a n c xs)(hp:0< size):a= none→c= 0:=by
 intro ha;rcases h.2.2 with⟨rfl,hr⟩|h2
 ·rcases hr with rfl|⟨_,_,h3,_⟩
  ·rcases Nat.eq_zero_or_pos n with h4|h4
   ·exact h4
   ·have:=Nat.mul_pos h4 hp;have h0:=h.1;simp at h0;omega
  ·rw[ha]at h3;simp at h3
 ·obtain⟨a',c',hv,_,_,hc⟩:=eN h2;simp only[Value.slice.injEq]at hv;obtain⟨rfl,_,rfl⟩:=hv;exact hc ha
theorem ik{w:World}{B:Nat}{e:TypeId}{size:Nat}{a:Option Addr}{n c:Nat}{xs:List Value}(h:w.ownsRow B e size (.slice a n c) n xs):∀b o s,a=some ⟨b,o,s⟩→B≤ b:=by
 intro b o s ha;exact(h.lt b (by rw[ha];rfl)).1
def cg(B:Nat)(src a:Option Addr):Prop:= ∀b o s,a=some ⟨b,o,s⟩→B≤ b∨∃o' s',src=some ⟨b,o',s'⟩
theorem cg.self(B:Nat)(a:Option Addr):cg B a a:=fun b o s h=> .inr ⟨o,s,h⟩
theorem cg.nil(B:Nat)(src:Option Addr):cg B src none:=fun _ _ _ h=>by cases h
theorem cg.own{w:World}{B B':Nat}{e:TypeId}{size:Nat}{a src:Option Addr}{n c:Nat}{xs:List Value}(h:w.ownsRow B e size (.slice a n c) n xs)(hB:B'≤ B):cg B' src a:=
 fun b o s ha=> .inl (Nat.le_trans hB (ik h b o s ha))
theorem cg.mono{B B':Nat}{src a:Option Addr}(h:cg B src a)(hB:B'≤ B):cg B' src a:=fun b o s ha=>(h b o s ha).imp (Nat.le_trans hB) id
theorem cg.trans'{B:Nat}{a:Option Addr}(h:cg B none a)(src:Option Addr):cg B src a:=fun b o s ha=>by
 rcases h b o s ha with h1|⟨_,_,h1⟩
 ·exact .inl h1
 ·cases h1
theorem cg.trans{B:Nat}{src a b:Option Addr}(h:cg B src a)(h2:cg B a b):cg B src b:=fun x o s hb=>by
 rcases h2 x o s hb with h3|⟨o',s',h3⟩
 ·exact .inl h3
 ·exact h x o' s' h3
theorem Row.pc{w:World}{a:Option Addr}{xs:List Value}(h:Row w a xs){p:Addr}(hp:∀b o s,a=some ⟨b,o,s⟩→b≠ p.block)(v:Value):Row (w.setCell p v) a xs:=by
 rcases h with h|⟨b,o,ha,hc⟩
 ·exact .inl h
 ·exact .inr ⟨b,o,ha,fun i hi=>(World.cell?_setCell_other w p _ v (fun e=>hp b o none ha (congrArg Addr.block e).symm)).trans (hc i hi)⟩
theorem Can.drew{w:World}{B:Nat}{e:TypeId}{size:Nat}{a:Option Addr}{n c:Nat}{xs:List Value}(h:Can w B e size a n c xs):Can w.drew B e size a n c xs:=h
theorem vw{P:Program}{w:World}{t e:TypeId}{size bytes:Nat}(el:sG P t e size bytes)(ty:TypeId)(B:Nat)(a:Option Addr)(n c:Nat)(xs:List Value)(di:Can w B e size a n c xs)(ad:Option Addr)(m k:Nat)(news:List Value)(hl:news.length= m*size)(hr:Row w ad news)(h1:∀u∈ news,u.oneCell'=true)(hbytes:(n+m)*bytes≤ 140737488355328)(hB:B≤ w.heap.size):
 ∃a' c' w',(Builtin.append_ #[t,t] ty (vs2 a n c ad m k)).run P w= .ok (.slice a' (n+m) c') w'∧Can w' B e size a' (n+m) c' (xs++news)∧w.grownBy w' (Value.slice a n c).ownBlock∧Below B w w'∧(0<m→ w'.ownsRow B e size (.slice a' (n+m) c') (n+m) (xs++news))∧(m=0→ a'=a∧ c'=c):=by
 obtain⟨i,z,hi,hz,hsize,hby,hzs⟩:=el.info;have hb:=el.oJ;have hp:=el.pos;have h63:n+ m≤maxLen:= by
  have:n+ m≤(n+m)*bytes:= Nat.le_mul_of_pos_right _ hb;unfold maxLen;omega
 have hlen:(xs++news).length=(n+m)*size:= by rw[List.length_append,di.1,hl,Nat.add_mul]
 by_cases hm:m= 0
 ·subst hm;obtain rfl:news= []:=List.eq_nil_of_length_eq_zero (by simpa using hl);refine⟨a,c,w,?_,?_,⟨rfl,rfl,rfl,Nat.le_refl _,fun _ _ _=>rfl⟩,Below.refl _ _,fun h=>absurd h o_,fun _=>⟨rfl,rfl⟩⟩
  ·have hle:=di.le;have hfc:∀w': World,(Builtin.firstCells size 0 (.slice ad 0 k)).run P w'= .ok #[] w':=fun w'=>by
    cases ad with
    |none=> simp[Builtin.firstCells]
    |some ad=>exact run_firstCells_some w' size 0 ad 0 k [] (by simp) (fun j u h=>by simp at h)
   rw[←hsize]at hfc;cases a with
   |none=> simp[Builtin.append_,run_underlying el.under,sizeOf,typeInfo,hi,Builtin.lenOf,hle,hfc]
   |some x=>simp [Builtin.append_,run_underlying el.under,sizeOf,typeInfo,hi,Builtin.lenOf,hle,hfc,storeCells]
  ·rw[Nat.add_zero,List.append_nil];exact di
 ·obtain⟨Uw,rfl⟩:∃x,ad=some x:=by
   cases ad with
   |some x=>exact ⟨x,rfl⟩
   |none=>
    rcases hr with rfl|⟨_,_,h,_⟩
    ·have:=Nat.mul_pos (Nat.pos_of_ne_zero hm) hp;simp at hl;omega
    ·simp at h
  rcases di.2.2 with⟨rfl,hrow⟩|hown
  ·have fin:∀v' w',w'.ownsRow w.heap.size e size v' (n+m) (xs++news)→w.grownBy w' none→
    ∃a' c',v'= .slice a' (n+m) c'∧Can w' B e size a' (n+m) c' (xs++news)∧w.grownBy w' (Value.slice a n n).ownBlock∧Below B w w'∧(0<m→ w'.ownsRow B e size (.slice a' (n+m) c') (n+m) (xs++news))∧(m=0→ a'=a∧ c'=n):=by
    intro v' w' ho hg;obtain⟨a',c',rfl,hc1,hc2,_⟩:=eN ho;have N3:w'.ownsRow B e size (.slice a' (n+m) c') (n+m) (xs++news):=by
     obtain⟨ho1,py⟩:=ho;refine⟨ho1,?_⟩;rcases py with h|⟨g,cap,cur,h2,h3,h4⟩
     ·exact .inl h
     ·exact .inr ⟨g,cap,cur,h2,Nat.le_trans hB h3,h4⟩
    exact⟨a',c',rfl,⟨hlen,h63,.inr N3⟩,⟨hg.os,hg.tape,hg.output,hg.size,fun q hq _=>hg.block q hq (by simp)⟩,(Below.refl B w).grown hg hB (fun _ h=>by cases h),fun _=>N3,fun h=>absurd h hm⟩
   cases a with
   |some x=>
    obtain⟨v',w',hrun,ho,hg⟩:=run_append_arg_grows w t ty e i z size bytes el.under hi hz hsize hby hzs hp x n n xs di.1 hrow.holds Uw m k news hl hr.holds o_ h63 hbytes;obtain⟨a',c',rfl,h⟩:=fin v' w' ho hg;exact⟨a',c',w',hrun,h⟩
   |none=>
    have hx:xs= []:=by
     rcases hrow with h|⟨_,_,h,_⟩
     ·exact h
     ·simp at h
    subst hx;have hn:n= 0:=by
     rcases Nat.eq_zero_or_pos n with h|h
     ·exact h
     ·have:=Nat.mul_pos h hp;have h0:=di.1;simp at h0;omega
    subst hn;obtain⟨v',w',hrun,ho,hg,_⟩:=run_append_own w w.heap.size t ty e i z size bytes el.under hi hz hsize hby hzs hp (.slice none 0 0) 0 [] (World.ownsRow_nil _ _ _ _) Uw m k news hl hr.holds h1 h63 hbytes n_;obtain⟨a',c',rfl,h⟩:=fin v' w' ho hg;exact⟨a',c',w',hrun,h⟩
  ·obtain⟨v',w',hrun,ho,hg,_⟩:=run_append_own w B t ty e i z size bytes el.under hi hz hsize hby hzs hp (.slice a n c) n xs hown Uw m k news hl hr.holds h1 h63 hbytes hB;obtain⟨a',c',rfl,hc1,hc2,_⟩:=eN ho;exact⟨a',c',w',hrun,⟨hlen,h63,.inr ho⟩,hg,Below.app (Below.refl B w) hown hg hB,fun _=>ho,fun h=>absurd h hm⟩
theorem dU{P:Program}{w:World}{ops:Array Oper}{rest:List Oper}{o:Oper}{ac:Act}{Q:Exit→ Act→World→ Prop}{t e:TypeId}{size bytes:Nat}(el:sG P t e size bytes)(hgd:o.guard= none)(s x:Operand)(ho:o.op= .call {callee:= .builtin .append,args:= #[s,x],argTypes:= #[t,t]})(B:Nat)(a:Option Addr)(n c:Nat)(xs:List Value)(hs:ac.eval s= .slice a n c)(di:Can w B e size a n c xs)(ad:Option Addr)(m k:Nat)(news:List Value)(hx:ac.eval x= .slice ad m k)(hl:news.length= m*size)(hr:Row w ad news)(h1:∀u∈ news,u.oneCell'=true)(hbytes:(n+m)*bytes≤ 140737488355328)(hB:B≤ w.heap.size)(h:∀a' c' w',Can w' B e size a' (n+m) c' (xs++news)→w.grownBy w' (Value.slice a n c).ownBlock→Below B w w'→(0<m→ w'.ownsRow B e size (.slice a' (n+m) c') (n+m) (xs++news))∧(m=0→ a'=a∧ c'=c)→wpList P ops Q rest (ac.put o.dst (.slice a' (n+m) c')) w'):wpList P ops Q (o::rest) ac w:=by
 obtain⟨a',c',w',hrun,h2,h3,h4,h5⟩:=vw el o.type B a n c xs di ad m k news hl hr h1 hbytes hB;refine wpList_plain hgd fun K hK=> ?_
 unfold Oper.wp execOp;simp only[ho,resolve,invoke,builtin,Sem.run_bind,Sem.run_pure,Result.andThen_ok,List.map_toArray,List.map_cons,List.map_nil,hs,hx,hrun];exact hK _ _ (h a' c' w' h2 h3 h4 h5)
theorem mz{α:Type}{cells:α→ List Value}{size:Nat}(hs:∀x,(cells x).length=size):∀(xs:List α) (k:Nat),(xs.flatMap cells).drop (k*size)=(xs.drop k).flatMap cells
 |[],k=>by simp
 |x:: xs,0=>by simp
 |x:: xs,k+1=> by
  rw[List.flatMap_cons,List.drop_succ_cons,Nat.succ_mul,Nat.add_comm,←hs x,←List.drop_drop,List.drop_left,hs x];exact mz hs xs k
theorem kF{α:Type}{cells:α→ List Value}{size:Nat}(hs:∀x,(cells x).length=size):∀(xs:List α) (k:Nat),(xs.flatMap cells).take (k*size)=(xs.take k).flatMap cells
 |[],k=>by simp
 |x:: xs,0=>by simp
 |x:: xs,k+1=> by
  rw[List.flatMap_cons,List.take_succ_cons,List.flatMap_cons,Nat.succ_mul,Nat.add_comm,←hs x,List.take_length_add_append,hs x];rw[kF hs xs k]
theorem vE{P:Program}{w:World}{ops:Array Oper}{o:Oper}{ac:Act}{K:Act→ World→Prop}{Q:Exit→ Act→World→ Prop}{E:Prop}{t e:TypeId}{size bytes:Nat}(el:sG P t e size bytes)(hgd:o.guard= none)(s x:Operand)(ho:o.op= .call {callee:= .builtin .append,args:= #[s,x],argTypes:= #[t,t]})(B:Nat)(a:Option Addr)(n c:Nat)(xs:List Value)(hs:ac.eval s= .slice a n c)(di:Can w B e size a n c xs)(ad:Option Addr)(m k:Nat)(news:List Value)(hx:ac.eval x= .slice ad m k)(hl:news.length= m*size)(hr:Row w ad news)(h1:∀u∈ news,u.oneCell'=true)(hbytes:(n+m)*bytes≤ 140737488355328)(hB:B≤ w.heap.size)(h:∀a' c' w',Can w' B e size a' (n+m) c' (xs++news)→w.grownBy w' (Value.slice a n c).ownBlock→Below B w w'→(0<m→ w'.ownsRow B e size (.slice a' (n+m) c') (n+m) (xs++news))∧(m=0→ a'=a∧ c'=c)→K (ac.put o.dst (.slice a' (n+m) c')) w'):
 if Region.wanted o (yielded ops ac.tmps)=true then Oper.wp P o ac w K Q else E:=by
 have hw:Region.wanted o (yielded ops ac.tmps)=true:= by simp[Region.wanted,hgd]
 rw[if_pos hw];obtain⟨a',c',w',hrun,h2,h3,h4,h5⟩:=vw el o.type B a n c xs di ad m k news hl hr h1 hbytes hB;unfold Oper.wp execOp;simp only[ho,resolve,invoke,builtin,Sem.run_bind,Sem.run_pure,Result.andThen_ok,List.map_toArray,List.map_cons,List.map_nil,hs,hx,hrun];exact h a' c' w' h2 h3 h4 h5
theorem aW{w w':World}{c:Array Value}{e:TypeId}(hb:Below (w.alloc (.cells c e)).heap.size (w.alloc (.cells c e)) w'):∀j,w'.cell? ⟨w.heap.size,j,none⟩=c[j]?:=
 fun j=>(hb.cell (p:=⟨w.heap.size,j,none⟩) (by simp)).trans (World.cell?_alloc_at _ _ _ j rfl)
theorem aY{w w':World}{c:Array Value}{e:TypeId}(hb:Below (w.alloc (.cells c e)).heap.size (w.alloc (.cells c e)) w'):∀j,w'.frozen? ⟨w.heap.size,j,none⟩=false:=
 fun j=>(hb.frozen (p:=⟨w.heap.size,j,none⟩) (by simp)).trans (World.frozen?_alloc_at _ _ _ j rfl)
theorem Below.more{w w1:World}(h:Below w.heap.size w w1)(o:Obj):Below w.heap.size w (w1.alloc o):=h.alloc h.size o
theorem Below.next{w w1 w2:World}(h:Below w.heap.size w w1)(k:Below w1.heap.size w1 w2):Below w.heap.size w w2:=h.trans (k.mono h.size)
theorem Below.put{w w1:World}{p:Addr}(h:Below w.heap.size w w1)(hp:w.heap.size≤ p.block)(u:Value):Below w.heap.size w (w1.setCell p u):=h.setCell hp u
theorem Below.Tt{w w1:World}(h:Below w.heap.size w w1):w.heap.size≤ w1.heap.size:=h.size
theorem below_drewN{B:Nat}{a w:World}(h:Below B a w)(n:Nat):Below B a (w.drewN n):=⟨h.os,h.tape,h.output,h.size,h.block⟩
theorem aH{n:Nat}{w w':World}(h:Below n w w':=by repeat' (first|(with_reducible exact Below.refl _ _)|(with_reducible assumption)|(with_reducible refine Below.drew ?_)|(with_reducible refine Below.more ?_ _)|(with_reducible refine Below.put ?_ ?_ _)|(with_reducible refine Below.next ?_ (by with_reducible assumption))|(with_reducible exact Nat.le_refl _)|(with_reducible refine Below.Tt ?_)|omega)):Below n w w':=h
theorem XY{n m:Nat}(h:n≤ m:=by (with_reducible refine Below.Tt ?_);repeat' (first|(with_reducible exact Below.refl _ _)|(with_reducible assumption)|(with_reducible refine Below.drew ?_)|(with_reducible refine Below.more ?_ _)|(with_reducible refine Below.put ?_ ?_ _)|(with_reducible refine Below.next ?_ (by with_reducible assumption))|(with_reducible exact Nat.le_refl _)|omega)):n≤ m:=h
theorem Below.boxed{w w':World}{o:Obj}(h:Below (w.alloc o).heap.size (w.alloc o) w'):w.heap.size< w'.heap.size:=by have:=h.size;simp at this;omega
end Go.Proofs.YtfdmhpohfjbpfaaGreat
namespace Go.Proofs.YtfdmhpohfjbpfaaGreat
open Go.ChangeShapes Go.WideShapes Go.ChangeAt Go.RowKit Go.Deep
set_option maxRecDepth 100000
set_option maxHeartbeats 16000000
def Rd{H:Type}(enc:TypeId× Value→H)(P:Program)(w:World)(t:TypeId)(cs:List Value):Prop:=
 ∃fuel x,DataW.trod enc P w 0 (fun _=>true) true fuel t cs=some x∧∀n∈ x.1.weights P t,n≤reachBytes
def QL{H:Type}(enc:TypeId× Value→H)(P:Program)(w:World)(t:TypeId)(v:Value):Prop:=
 (∃base,Value.okWide P w .any base t v)∧Rd enc P w t v.cells.toList
def CC{H:Type}(enc:TypeId× Value→H)(P:Program)(w:World):List TypeId→List Value→Prop
 |[],vs=>vs= []
 |t:: ts,vs=>∃v vs',vs=v:: vs'∧QL enc P w t v∧CC enc P w ts vs'
section
variable {H:Type} {enc:TypeId× Value→H} {P:Program} {w:World} {t:TypeId}
theorem rM{P:Program}{e:TypeId}{d:DataW H}{k:Nat}:∀ {l:List (DataW H)},d∈l→ k∈d.weights P e→k∈ DataW.weightsAll P e l
 |a:: l,hd,hk=>by
  rw[DataW.weightsAll,List.mem_append];rcases List.mem_cons.1 hd with rfl|h
  ·exact .inl hk
  ·exact .inr (rM h hk)
theorem pg{P:Program}{k:Nat}{t:TypeId}{d:DataW H}:∀ {ts:List TypeId} {l:List (DataW H)} {i:Nat},ts[i]? =some t→l[i]? =some d→k∈ d.weights P t→k∈ DataW.weightsEach P ts l
 |t:: ts,a::l,0,ht,hd,hk=>by
  simp at ht hd;subst ht;subst hd;rw[DataW.weightsEach,List.mem_append];exact .inl hk
 |_:: ts,_::l,i+1,ht,hd,hk=>by
  rw[DataW.weightsEach,List.mem_append];exact .inr (pg (i:=i) (by simpa using ht) (by simpa using hd) hk)
 |[],_,_,ht,_,_=>by simp at ht
 |_:: _,[],_,_,hd,_=>by simp at hd
theorem Rd.int{k:IntKind}{cs:List Value}(ht:P.underlying t=some (.int k))(h:Rd enc P w t cs):∃n,cs=[.int k n]∧(Lit.int k n).wf=true:= by
 obtain⟨f,x,h,_⟩:=h;obtain⟨n,h1,_,h2⟩:=DataW.trod_int ht h;exact⟨n,h1,h2⟩
theorem Rd.bool{cs:List Value}(ht:P.underlying t=some .bool)(h:Rd enc P w t cs):∃b,cs=[.bool b]:=by
 obtain⟨f,x,h,_⟩:=h;obtain⟨b,h1,_⟩:=DataW.trod_bool ht h;exact⟨b,h1⟩
theorem Rd.slice{e:TypeId}{cs:List Value}(ht:P.underlying t=some (.slice e))(h:Rd enc P w t cs):
 cs=[.slice none 0 0]∨∃a len cap,cs=[.slice (some a) len cap]∧len≤ cap∧cap≤ maxLen∧cap* P.bytesOf e≤reachBytes∧
  ∀i,i<cap→ ∃c,w.cells? 0 (a.add (i*P.cellsOf e)) (P.cellsOf e)=some c∧Rd enc P w e c:=by
 obtain⟨f,x,h,hw⟩:=h;rcases open_slice ht h with⟨h1,_⟩|⟨a,len,cap,m,n,D,Pl,h1,_,hl,hc,hm,rfl,hel⟩
 ·exact .inl h1
 ·simp only[if_true]at hm;obtain rfl:=hm;simp only[DataW.weights,ht,List.length_map,List.length_range,List.mem_cons,List.mem_append]at hw;refine .inr ⟨a,len,m,h1,hl,hc,?_,fun i hi=> ?_⟩
  ·have:=hw _ (.inl rfl);rw[Nat.add_sub_cancel' hl]at this;exact this
  ·obtain⟨c,hc,hx⟩:=hel i hi;refine⟨c,hc,n,_,hx,fun k hk=>hw k (.inr ?_)⟩;by_cases h:i< len
   ·exact .inl (rM (List.mem_map.2 ⟨i,by simpa using h,rfl⟩) hk)
   ·exact .inr (rM (List.mem_map.2 ⟨i-len,by simp;omega,by rw[Nat.add_sub_cancel' o_]⟩) hk)
theorem Rd.struct{fs:Array Field}{cs:List Value}(ht:P.underlying t=some (.struct fs))(h:Rd enc P w t cs):
 cs.length=P.cellsOf t∧∀(i:Nat) (f:Field),fs[i]? =some f→Rd enc P w f.type ((cs.drop f.offset).take (P.cellsOf f.type)):=by
 obtain⟨f,x,h,hw⟩:=h;obtain⟨xs,n,_,rfl,hl,hx,hel⟩:=DataW.trod_struct ht h;simp only[DataW.weights,ht]at hw;refine⟨hl,fun i f hf=> ?_⟩;have:=hel i f hf;have hi:i< xs.length:=by
  rw[hx];exact(Array.getElem?_eq_some_iff.1 hf).1
 exact⟨n,xs[i],by rw[this,List.getElem?_eq_getElem hi],fun k hk=>hw k (pg (i:=i) (by simpa using ⟨f,hf,rfl⟩) (by simp[List.getElem?_eq_getElem hi]) hk)⟩
theorem QL.int{k:IntKind}{v:Value}(ht:P.underlying t=some (.int k))(h:QL enc P w t v):∃n,v= .int k n∧(Lit.int k n).wf=true:= by
 obtain⟨⟨_,ho⟩,h⟩:=h;obtain⟨n,rfl⟩:=okWide_int ht ho;obtain⟨m,h1,h2⟩:=h.int ht;simp[Value.cells]at h1;subst h1;exact⟨_,rfl,h2⟩
theorem QL.bool{v:Value}(ht:P.underlying t=some .bool)(h:QL enc P w t v):∃b,v= .bool b:=by
 obtain⟨⟨_,ho⟩,h⟩:=h;exact okWide_bool ht ho
theorem QL.slice{e:TypeId}{v:Value}(ht:P.underlying t=some (.slice e))(h:QL enc P w t v):∃a len cap,v= .slice a len cap∧Rd enc P w t [.slice a len cap]:=by
 obtain⟨⟨_,ho⟩,h⟩:=h;obtain⟨a,len,cap,rfl⟩:=okWide_slice ht ho;exact⟨a,len,cap,rfl,h⟩
theorem QL.struct{fs:Array Field}{v:Value}(ht:P.underlying t=some (.struct fs))(h:QL enc P w t v):∃cs: List Value,v= .agg cs.toArray∧Rd enc P w t cs:=by
 obtain⟨⟨_,ho⟩,h⟩:=h;obtain⟨cs,rfl,_⟩:=okWide_struct ht ho;exact⟨cs.toList,by simp,h⟩
theorem Rd.rows{α:Type}{e:TypeId}{a:Option Addr}{len cap size:Nat}{cells:α→ List Value}{good:α→ Prop}(hs:∀x,(cells x).length=size)(hpos:0< size)(ht:P.underlying t=some (.slice e))(hc:P.cellsOf e=size)(each:∀cs,Rd enc P w e cs→∃x,cs=cells x∧good x)(h:Rd enc P w t [.slice a len cap]):
 ∃xs: List α,xs.length=len∧ len≤cap∧ cap≤maxLen∧ cap*P.bytesOf e≤reachBytes∧ (a=none→ cap=0)∧(∀x∈ xs,good x)∧Row w a (xs.flatMap cells):=by
 rcases h.slice ht with h1|⟨x,l,c,h1,hl,hm,hby,hel⟩
 ·simp at h1;obtain⟨rfl,rfl,rfl⟩:=h1;exact⟨[],rfl,Nat.le_refl _,Nat.zero_le _,by simp,fun _=>rfl,by simp,.inl rfl⟩
 ·simp at h1;obtain⟨rfl,rfl,rfl⟩:=h1;rw[hc]at hel;have hv:∀i,i<len→ ∃y: α,good y∧w.cells? 0 (x.add (i*size)) size=some (cells y):=by
   intro i hi;obtain⟨cs,hcs,hr⟩:=hel i o_;obtain⟨y,rfl,hy⟩:=each _ hr;exact⟨y,hy,hcs⟩
  by_cases h0:len= 0
  ·subst h0;exact⟨[],rfl,Nat.zero_le _,hm,hby,fun e=>by simp at e,by simp,.inl rfl⟩
  ·obtain⟨y0,_⟩:=hv 0 o_;have:Inhabited α:=⟨y0⟩;obtain⟨g,hg⟩:=choose_lt (p:=fun i y=>good y∧w.cells? 0 (x.add (i*size)) size=some (cells y)) hv;have hcell:∀i r,i<len→ r<size→ w.cell? ((x.add (i*size)).add r)=(cells (g i))[r]?:=by
    intro i r hi hr;obtain⟨_,_,hall⟩:=World.cells?_some (hg i hi).2;exact hall r hr
   have hspot:x.spot= none:=by
    have h1:=hcell 0 0 o_ hpos;obtain⟨v,hv⟩:∃v,(cells (g 0))[0]? =some v:=by
     cases hh:(cells (g 0))[0]? with
     |some v=>exact ⟨v,rfl⟩
     |none=> rw[List.getElem?_eq_none_iff,hs]at hh;omega
    have:=World.cell?_spot (h1.trans hv);simpa[Addr.add]using this
   obtain⟨b,o,spot⟩:=x;simp only at hspot;subst hspot;refine⟨(List.range len).map g,by simp,hl,hm,hby,fun e=>by simp at e,?_,.inr ⟨b,o,rfl,fun j hj=> ?_⟩⟩
   ·intro y hy;obtain⟨i,hi,rfl⟩:=List.mem_map.1 hy;exact(hg i (by simpa using hi)).1
   ·have hlen:=kg hs ((List.range len).map g);rw[List.length_map,List.length_range]at hlen;have hj2:j< len*size:= by rw[←hlen];exact hj
    have hi:j/ size<len:= Nat.div_lt_of_lt_mul (by rw[Nat.mul_comm];exact hj2);have hr:j% size<size:= Nat.mod_lt _ hpos;have Rh:j/ size*size+ j%size= j:=by rw[Nat.mul_comm];exact Nat.div_add_mod j size
    have h1:=lh hs (xs:=(List.range len).map g) (i:=j/ size) hr;rw[Rh]at h1;have h2:=hcell (j/size) (j%size) hi hr;have h3:((⟨b,o,none⟩:Addr).add (j/size* size)).add (j%size)=⟨b,o+j,none⟩:=by
     rw[add_add,Rh];unfold Addr.add;by_cases hz:j= 0
     ·subst hz;simp
     ·simp[hz]
    rw[h3]at h2;rw[h2,←List.getElem?_eq_getElem hj,h1,List.getElem?_map,List.getElem?_range hi];rfl
theorem Rd.ints{e:TypeId}{k:IntKind}{a:Option Addr}{len cap:Nat}(ht:P.underlying t=some (.slice e))(he:P.underlying e=some (.int k))(hc:P.cellsOf e=1)(h:Rd enc P w t [.slice a len cap]):
 ∃zs: List Int,zs.length=len∧ len≤cap∧ cap≤maxLen∧ cap*P.bytesOf e≤reachBytes∧ (∀n∈ zs,(Lit.int k n).wf=true)∧(a=none→ cap=0)∧Row w a (zs.map (Value.int k)):=by
 rcases h.slice ht with h1|⟨x,l,c,h1,hl,hm,hby,hel⟩
 ·simp at h1;obtain⟨rfl,rfl,rfl⟩:=h1;exact⟨[],rfl,Nat.le_refl _,Nat.zero_le _,by simp,by simp,fun _=>rfl,.inl rfl⟩
 ·simp at h1;obtain⟨rfl,rfl,rfl⟩:=h1;rw[hc]at hel;have hv:∀i,i<len→ ∃n,(Lit.int k n).wf=true∧ w.cell? (x.add i)=some (.int k n):=by
   intro i hi;obtain⟨cs,hcs,hr⟩:=hel i o_;obtain⟨n,rfl,hw⟩:=hr.int he;refine⟨n,hw,?_⟩;rw[Nat.mul_one]at hcs;simp only[World.cells?,Nat.zero_le,if_true,List.range_succ,List.range_zero,List.nil_append]at hcs;have he:(x.add i).add 0=x.add i:=by simp[Addr.add]
   simp only[List.mapM_cons,List.mapM_nil,he]at hcs;revert hcs;cases w.cell? (x.add i)with
   |none=> intro h;cases h
   |some v=>intro h;simpa using h
  obtain⟨g,hg⟩:=choose_lt (p:=fun i n=>(Lit.int k n).wf=true∧ w.cell? (x.add i)=some (.int k n)) hv;refine⟨(List.range len).map g,by simp,hl,hm,hby,?_,fun e=>by simp at e,?_⟩
  ·intro n hn;obtain⟨i,hi,rfl⟩:=List.mem_map.1 hn;exact(hg i (by simpa using hi)).1
  ·by_cases h0:len= 0
   ·subst h0;exact .inl rfl
   ·have hs:=World.cell?_spot (hg 0 o_).2;have hspot:x.spot= none:=by simpa[Addr.add]using hs
    obtain⟨b,o,spot⟩:=x;simp only at hspot;subst hspot;refine .inr ⟨b,o,rfl,fun i hi=> ?_⟩;simp only[List.length_map,List.length_range]at hi;have:=(hg i hi).2;by_cases hi0:i= 0
    ·subst hi0;simpa[Addr.add]using this
    ·simpa[Addr.add,hi0]using this
theorem Rd.bytes{e:TypeId}{a:Option Addr}{len cap:Nat}(ht:P.underlying t=some (.slice e))(he:P.underlying e=some (.int .u8))(hc:P.cellsOf e=1)(h:Rd enc P w t [.slice a len cap]):
 ∃l: List UInt8,l.length=len∧ len≤cap∧ cap≤maxLen∧ cap*P.bytesOf e≤reachBytes∧ (a=none→ cap=0)∧iu w a l:=by
 obtain⟨zs,h1,h2,h3,hby,h4,h5,h6⟩:=h.ints ht he hc;refine⟨zs.map fun z=>UInt8.ofNat z.toNat,by simpa using h1,h2,h3,hby,h5,?_⟩;have:(zs.map fun z=>UInt8.ofNat z.toNat).map B=zs.map (Value.int .u8):=by
  rw[List.map_map];refine List.map_congr_left fun z hz=> ?_
  obtain⟨b0,b1⟩:=bounds_u8 (h4 z hz);simp only[Function.comp,B]
  congr 1
  rw[UInt8.toNat_ofNat'];omega
 unfold iu;rw[this];exact h6
end
theorem CC.of{H:Type}{enc:TypeId× Value→H}{P:Program}{w:World}{base:Nat}:∀ {ts:List TypeId} {vs:List Value} {ds:List (DataW H)} {p:List MemPlace},DataW.TrodAll enc P w 0 (fun _=>true) true ts vs ds p→
 (∀(j:Nat) t v,ts[j]? =some t→vs[j]? =some v→Value.okWide P w .any base t v)→(∀n∈ DataW.weightsEach P ts ds,n≤reachBytes)→CC enc P w ts vs
 |[],[],[],_,_,_,_=>rfl
 |t:: _,v::vs,_::_,_,⟨_,_,⟨fuel,hx⟩,h,_⟩,hok,hw=>
  ⟨v,vs,rfl,⟨⟨base,hok 0 t v rfl rfl⟩,fuel,_,hx,fun n hn=>hw n (by rw[DataW.weightsEach,List.mem_append];exact .inl hn)⟩,
   CC.of h (fun j t v ht hv=>hok (j+1) t v ht hv) (fun n hn=>hw n (by rw[DataW.weightsEach,List.mem_append];exact .inr hn))⟩
theorem s9{H:Type}{enc:TypeId× Value→H}{P:Program}{W W':World}(hl:laidOutB P=true)(hb:Below W.heap.size W W'):∀ {ts:List TypeId} {vs:List Value} {ds:List (DataW H)} {p:List MemPlace},
 (∀t∈ ts,P.readableRec t=true∧ t<P.types.size)→DataW.TrodAll enc P W 0 (fun _=>true) true ts vs ds p→DataW.TrodAll enc P W' 0 (fun b=>decide (b<W.heap.size)) true ts vs ds p
 |[],[],[],_,_,h=>h
 |t:: ts,v::vs,d::ds,_,hall,⟨p,q,hx,h,rfl⟩=>
  ⟨_,_,Below.trod hl (hall t (by simp)).1 (hall t (by simp)).2 hx hb (by obtain⟨m,hm⟩:=hx;exact DataW.trod_lt m _ _ _ hm),s9 hl hb (fun t ht=>hall t (by simp[ht])) h,rfl⟩
theorem rL{H:Type}{enc:TypeId× Value→H}{P:Program}{W:World}{b:Nat}{sp:Nat→ Bool}{hd:Bool}:∀ {ts:List TypeId} {vs:List Value} {ds:List (DataW H)} {p:List MemPlace},
 DataW.TrodAll enc P W b sp hd ts vs ds p→ds.length= ts.length
 |[],[],[],_,_=>rfl
 |_:: _,_::_,_::_,_,⟨_,_,_,h,_⟩=>congrArg (· +1) (rL h)
theorem I9{H:Type}{enc:TypeId× Value→H}{C:Checked}{os:Os}{f:FuncId}{fn:Func}{s:ChangeSpec}{boolT:TypeId}(own:ownKnob C.prog.godebug=none)(started:os.Started)(noInit:C.prog.inits.idxOf? f=none)(hfn:C.prog.funcs[f]? =some fn)(witness:∃(w:World) (tape:Tape) (i:Input),w.os=os∧ (w.forCall tape i).Shaped C.prog∧i.vars= []∧Input.okWide C.prog (w.forCall tape i) .any w.heap.size f i∧
 s.pre6 enc C.prog fn [] false (w.forCall tape i).memory i.args∧({}:Assume).holds C.prog (lone (Frame.enter C.prog f i.args .normal) [] (w.forCall tape i)))(hvars:s.vars= [])(hres:fn.resultTypes= #[boolT])(hbool:C.prog.underlying boolT=some .bool)(hlaid:laidOutB C.prog=true)(Yx:(fn.params.toList.all fun t=>C.prog.readableRec t&&decide (t<C.prog.types.size))=true)(YH:∀ds: List (DataW H),ds.length=fn.params.toList.length→ s.fn H ds={results:=[.lit (.bool true)],args:=ds})(walk:∀(W:World) (vs:List Value),CC enc C.prog W fn.params.toList vs→Calls C.prog f vs.toArray W fun e W'=>e= .returned (.bool true)∧Below W.heap.size W W'):
 ReturnsInHanded {} C os f .any (s.pre6 enc C.prog fn [] false) (s.post enc C.prog fn false true false false):=by
 have acu:∀t∈ fn.params.toList,C.prog.readableRec t=true∧ t<C.prog.types.size:= fun t ht=>by
  have:=List.all_eq_true.1 Yx t ht;simpa using this
 refine returnsInHanded_of_change_sized own started noInit hfn witness ?_;intro W base args ds gs before hval hW hcnd hsz _;have hW':=hW;obtain⟨p,q,hA,hV,rfl,hfz,hnd⟩:=hW;rw[hvars]at hV;obtain⟨rfl,rfl⟩:gs= []∧q= []:=by
  cases gs with
  |nil=> exact⟨rfl,hV⟩
  |cons g gs=>exact hV.elim
 have hr:=CC.of (base:=base) hA (fun j t v ht hv=>hval j t v (by simpa using ht) (by simpa using hv)) (fun n hn=>by
  have hv0:s.plain.varTypes C.prog=[]:=by unfold DataSpec.varTypes ChangeSpec.plain;simp[hvars]
  rw[hv0,List.append_nil,List.append_nil]at hsz
  simpa using List.all_eq_true.1 hsz n hn)
 have hw:=walk W args.toList hr;rw[Array.toArray_toList]at hw;refine hw.mono fun e W' ⟨he,hb⟩=> ?_
 have hs:=YH ds (rL hA);refine⟨_,he,ds,[],_,[],p,[],hW',?_,?_,?_,hb.frame _,fun h=>by cases h⟩
 ·rw[List.append_nil,hs,hres];exact trodAll_mk1 (shut_bool hbool _)
 ·rw[List.append_nil,hs];exact s9 hlaid hb acu hA
 ·rw[List.append_nil,hs,hvars];rfl
theorem own:ownKnob Tryz.prog.godebug=none:= k_
theorem laidOut:laidOutB Tryz.prog=true:= k_
end Go.Proofs.YtfdmhpohfjbpfaaGreat
namespace Go.Proofs.YtfdmhpohfjbpfaaGreat
set_option maxHeartbeats 16000000
structure bS where
 e:Int
 aK:Int
 aq:Int
 bW:Int
 size:Int
 deriving DecidableEq
def bS.err(e:Int):bS:= ⟨e,0,0,0,0⟩
structure aj where
 id:Int
 aK:Int
 aq:Int
 bucket:Int
 gone:Bool
 deriving DecidableEq
def mg(aK aq:Int):Bool:= decide (0≤aK∧ aK≤1000000∧ 0≤aq∧ aq≤1000000)
def bL(n lo hi:Int):Int:= min (max n lo) hi
def qA(aq out:Int):Int:= 1000*(bL aq 0 1000000-bL out 0 (bL aq 0 1000000))
def gF(b aq out:Int):Int:= bL b 0 (qA aq out)
theorem eA(n lo hi:Int)(h:lo≤ hi):lo≤ bL n lo hi∧bL n lo hi≤hi:= by
 unfold bL;omega
theorem iA(aq out:Int):0≤ qA aq out∧qA aq out≤1000000000:= by
 have h:=eA aq 0 1000000 o_;have h2:=eA out 0 (bL aq 0 1000000) h.1;unfold qA;omega
theorem pK(b aq out:Int):0≤ gF b aq out∧gF b aq out≤qA aq out:=eA _ _ _ (iA _ _).1
def BA(last:Int)(x:aj):Bool:= decide (last<x.id∧ x.id≤16)
def zD(x:aj):Bool:= mg x.aK x.aq
def vY(x:aj):Bool:= decide (0≤x.bucket∧ x.bucket≤1000000000)
def uD(x:aj):Bool:= !x.gone||decide (x.aK=0∧ x.aq=0∧ x.bucket=0)
def fR(last:Int)(x:aj):Bool:= BA last x&&zD x&&vY x&&uD x
def aZ:Int→ List aj→Bool
 |_,[]=>true
 |last,x::l=> fR last x&&aZ x.id l
def fL(l:List aj):Int:= match l.getLast? with|some x=>x.id| none=>0
theorem xJ{l:List aj}{k:Nat}(h:k< l.length):fL (l.take (k+1))=l[k].id:=by
 unfold fL;rw[List.take_succ_eq_append_getElem h,List.getLast?_concat]
theorem oc:∀(l m:List aj) (a:Int),aZ a (l++m)=(aZ a l&&aZ (match l.getLast? with|some x=>x.id| none=>a) m)
 |[],m,a=>by simp[aZ]
 |x:: l,m,a=>by
  rw[List.cons_append,aZ,aZ,oc l m,Bool.and_assoc]
  congr 2
  cases l with
  |nil=> simp
  |cons y l=>
   rw[List.getLast?_cons_cons];cases h:(y::l).getLast? with
   |none=> simp at h
   |some z=>rfl
theorem GV(l:List aj)(x:aj):aZ 0 (l++[x])=(aZ 0 l&&fR (fL l) x):=by
 rw[oc];simp[aZ,fL]
theorem nI{l:List aj}{k:Nat}(h:k< l.length):aZ 0 (l.take (k+1))=(aZ 0 (l.take k)&&fR (fL (l.take k)) l[k]):=by
 rw[List.take_succ_eq_append_getElem h,GV]
theorem Bb{l:List aj}{k:Nat}(h:k< l.length)(hb:fR (fL (l.take k)) l[k]=false):aZ 0 l=false:= by
 have h1:aZ 0 (l.take (k+1))=false:= by rw[nI h,hb,Bool.and_false]
 have h2:=oc (l.take (k+1)) (l.drop (k+1)) 0;rw[List.take_append_drop,h1,Bool.false_and]at h2;exact h2
def cw(id:Int)(ts:List aj):List aj:=match ts.findIdx? (fun x=>x.id== id)with|some k=>ts.take k++ts.drop (k+1)|none=> ts
def putAt(x:aj)(ts:List aj):Nat:= match ts.findIdx? (fun y=>decide (x.id<y.id))with|some k=>k| none=>ts.length
def dE(x:aj)(ts:List aj):List aj:=(cw x.id ts).take (putAt x (cw x.id ts))++x:: (cw x.id ts).drop (putAt x (cw x.id ts))
def iV:aj:= ⟨0,0,0,0,false⟩
def bf(ts:List aj)(id:Int):aj× Bool:=match ts.findIdx? (fun x=>x.id== id)with|some k=>(if aZ 0 ts then(ts[k]?.getD iV,true)else(iV,false))|none=> (iV,false)
def qI(ts:List aj)(id aK aq out:Int):List aj×bS:=
 if aZ 0 ts=false then(ts,bS.err 2)
 else if id<1∨ 16<id then(ts,bS.err 161)
 else if mg aK aq=false then(ts,bS.err 160)
 else(dE ⟨id,aK,aq,gF (bf ts id).1.bucket aq (max out 0),false⟩ ts,⟨0,aK,aq,0,0⟩)
def ma(ts:List aj)(id:Int):bS:=
 if aZ 0 ts=false then bS.err 2
 else if(bf ts id).2=false∨ (bf ts id).1.gone=true then bS.err 161
 else⟨0,(bf ts id).1.aK,(bf ts id).1.aq,0,0⟩
def gp(ts:List aj)(id out:Int):List aj×bS:=
 if(ma ts id).e≠0 then(ts,bS.err (ma ts id).e)
 else if 0<out then(dE ⟨id,0,0,0,true⟩ ts,bS.err 0)
 else(cw id ts,bS.err 0)
theorem A9{last:Int}{x:aj}(h:¬(last<x.id∧ x.id≤16)):fR last x=false:= by
 unfold fR BA;rw[decide_eq_false h];rfl
theorem Ba{last:Int}{x:aj}(h:mg x.aK x.aq=false):fR last x=false:= by
 unfold fR zD;rw[h];simp
theorem Jw{last:Int}{x:aj}(h:¬(0≤x.bucket∧ x.bucket≤1000000000)):fR last x=false:= by
 unfold fR vY;rw[decide_eq_false h];simp
theorem uh{last:Int}{x:aj}(h:x.gone= true)(h2:¬(x.aK=0∧ x.aq=0∧ x.bucket=0)):fR last x=false:= by
 unfold fR uD;rw[decide_eq_false h2,h];simp
theorem GR{last:Int}{x:aj}(h1:last< x.id∧x.id≤ 16)(h2:mg x.aK x.aq=true)(h3:0≤ x.bucket∧x.bucket≤ 1000000000)(h4:x.gone= false∨(x.aK=0∧ x.aq=0∧ x.bucket=0)):fR last x=true:= by
 unfold fR BA zD vY uD;rw[decide_eq_true h1,h2,decide_eq_true h3];rcases h4 with h|h
 ·rw[h];rfl
 ·rw[decide_eq_true h];simp
theorem CR:∀ {l:List aj} {a:Int},aZ a l=true→ a≤(match l.getLast? with|some x=>x.id| none=>a)
 |[],a,_=>Int.le_refl _
 |x:: l,a,h=>by
  rw[aZ,Bool.and_eq_true]at h;have h1:a< x.id:=by
   have:=h.1;unfold fR BA at this;simp only[Bool.and_eq_true,decide_eq_true_eq]at this;exact this.1.1.1.1
  have h2:=CR h.2;cases l with
  |nil=> simp;omega
  |cons y l=>
   rw[List.getLast?_cons_cons];cases hl:(y::l).getLast? with
   |none=> simp at hl
   |some z=>rw [hl]at h2;simp only at h2 ⊢;omega
theorem BV{l:List aj}(h:aZ 0 l=true):0≤ fL l:=CR h
end Go.Proofs.YtfdmhpohfjbpfaaGreat
namespace Go.Proofs.YtfdmhpohfjbpfaaGreat
open Go.ChangeShapes Go.WideShapes Go.ChangeAt Go.RowKit
set_option maxRecDepth 100000
set_option maxHeartbeats 16000000
abbrev aj.cells(t:aj):List Value:=(gW t.id t.aK t.aq t.bucket t.gone)
abbrev aj.agg(t:aj):Value:= .agg (gW t.id t.aK t.aq t.bucket t.gone)
abbrev dK(w:World)(a:Option Addr)(ts:List aj):Prop:= Row w a (ts.flatMap aj.cells)
theorem dK.at{w:World}{a:Option Addr}{ts:List aj}(h:dK w a ts){k:Nat}(hk:k< ts.length):
 ∃b o,a=some ⟨b,o,none⟩∧∀w',Below w.heap.size w w'→
  w'.cell? ⟨b,o+k* 5,none⟩=some (.int .i64 ts[k].id)∧w'.cell? ⟨b,o+k* 5+1,none⟩=some (.int .i64 ts[k].aK)∧w'.cell? ⟨b,o+k* 5+2,none⟩=some (.int .i64 ts[k].aq)∧
  w'.cell? ⟨b,o+k* 5+3,none⟩=some (.int .i64 ts[k].bucket)∧w'.cell? ⟨b,o+k* 5+4,none⟩=some (.bool ts[k].gone):=by
 have hat:=fun r (hr:r< 5)=>lh (cells:=aj.cells) (size:=5) (fun _=>rfl) (xs:=ts) (i:=k) (r:=r) hr
 have hx:ts[k]? =some ts[k]:=List.getElem?_eq_getElem hk;simp only[hx,Option.bind_some]at hat;obtain⟨b,o,rfl,h0⟩:=h.jH (hat 0 o_);obtain⟨b1,o1,e1,h1⟩:=h.jH (hat 1 o_);obtain⟨b2,o2,e2,h2⟩:=h.jH (hat 2 o_);obtain⟨b3,o3,e3,h3⟩:=h.jH (hat 3 o_);obtain⟨b4,o4,e4,h4⟩:=h.jH (hat 4 o_);simp only[Option.some.injEq,Addr.mk.injEq,and_true]at e1 e2 e3 e4;obtain⟨rfl,rfl⟩:=e1;obtain⟨rfl,rfl⟩:=e2;obtain⟨rfl,rfl⟩:=e3;obtain⟨rfl,rfl⟩:=e4;exact⟨b,o,rfl,fun w' hb=>⟨h0 w' hb,h1 w' hb,h2 w' hb,h3 w' hb,h4 w' hb⟩⟩
def idx(p:aj→ Bool)(ts:List aj):Int:= match ts.findIdx? p with|some k=>(k:Int)|none=> -1
theorem OO{p:aj→ Bool}{ts:List aj}{k:Nat}(hk:k< ts.length)(hno:∀j (h:j< ts.length),j<k→ p ts[j]=false)(hp:p ts[k]=true):idx p ts=k:= by
 have:ts.findIdx? p=some k:=by
  rw[List.findIdx?_eq_some_iff_getElem];exact⟨hk,hp,fun j hj=>by rw[hno j o_ hj];simp⟩
 unfold idx;rw[this]
theorem OM{p:aj→ Bool}{ts:List aj}(hno:∀j (h:j< ts.length),p ts[j]=false):idx p ts= -1:= by
 have:ts.findIdx? p=none:= by
  rw[List.findIdx?_eq_none_iff];intro x hx;obtain⟨j,hj,rfl⟩:=List.mem_iff_getElem.1 hx;exact hno j hj
 unfold idx;rw[this]
theorem BQ(ts:List aj)(a:Option Addr)(n c:Nat)(cM:FuncId)(cap:Array Value)(p:aj→ Bool)(w:World)(hn:ts.length= n)(hl:ts.length≤ maxLen)(hr:dK w a ts)(qp:∀(args:Array Value) (w:World),(callFunc cM args).run Tryz.prog w= .ok (.enter cM args) w)(hf:∀t∈ ts,∀w',Below w.heap.size w w'→Calls Tryz.prog cM (#[t.agg]++cap) w' fun e w''=>e= .returned (.bool (p t))∧Below w'.heap.size w' w''):
 Calls Tryz.prog 39 #[.slice a n c,.func (.func cM) #[] cap] w fun e w'=>e= .returned (.int .i64 (idx p ts))∧Below w.heap.size w w':=by
 subst hn;have hl2:=cX hl;go_enter Tryz.func39,Tryz.ntmps39;go_wp2;go_loopw [8] (fun i wr=>∃k: Nat,k≤ts.length∧ i= .int .i64 k∧(∀j (h:j< ts.length),j<k→ p ts[j]=false)∧Below w.heap.size w wr) (fun i _=>ts.length- (intOf i).toNat)
 case atStart=>exact ⟨0,by omega,rfl,by omega,Below.refl _ _⟩
 case round=>
  obtain⟨k,hk,rfl,hno,hb⟩:=hrel;have sP:=h_ hno;clear hno;by_cases hlt:k< ts.length
  ·obtain⟨b,o,rfl,hcs⟩:=hr.at hlt;obtain⟨h0,h1,h2,h3,h4⟩:=hcs _ hb;have HF:=h_ (hf ts[k] (List.getElem_mem hlt));clear hcs hf;by_cases hp:p ts[k]=true
   ·go_wp2_with(refine(HF wr hb).mono ?_;rw[hp];rintro e w2 ⟨rfl,hb2⟩);go_returns;exact⟨dZ (OO hlt sP.out hp).symm,hb.trans (hb2.mono hb.size)⟩
   ·rw[Bool.not_eq_true]at hp;go_wp2_with(refine(HF wr hb).mono ?_;rw[hp];rintro e w2 ⟨rfl,hb2⟩);go_roundw
    case rel=>exact ⟨k+1,by omega,by go_num,fun j h hj=>by rcases Nat.lt_succ_iff_lt_or_eq.1 hj with h1|rfl;exact sP.out j h h1;exact hp,hb.trans (hb2.mono hb.size)⟩
    case measure=>simp [intOf];omega
  ·go_wp2;go_returns;exact⟨dZ (OM fun j h=>sP.out j h o_).symm,hb⟩
theorem Gs{H:Type}{enc:TypeId× Value→H}{w:World}{cs:List Value}(h:Rd enc Tryz.prog w 75 cs):∃x: aj,cs=x.cells:= by
 obtain⟨hl,hf⟩:=h.struct Tryz.underlying75;have h5:Tryz.prog.cellsOf 75=5:= k_;have c3:Tryz.prog.cellsOf 3=1:= k_;have c4:Tryz.prog.cellsOf 4=1:= k_;rw[h5]at hl
 match cs,hl with
 |[v0,v1,v2,v3,v4],_=>
  have f0:Rd enc Tryz.prog w 3 ((([v0,v1,v2,v3,v4]:List Value).drop 0).take (Tryz.prog.cellsOf 3)):=hf 0 _ rfl;rw[c3]at f0;replace f0:Rd enc Tryz.prog w 3 [v0]:=f0;have f1:Rd enc Tryz.prog w 3 ((([v0,v1,v2,v3,v4]:List Value).drop 1).take (Tryz.prog.cellsOf 3)):=hf 1 _ rfl;rw[c3]at f1;replace f1:Rd enc Tryz.prog w 3 [v1]:=f1;have f2:Rd enc Tryz.prog w 3 ((([v0,v1,v2,v3,v4]:List Value).drop 2).take (Tryz.prog.cellsOf 3)):=hf 2 _ rfl;rw[c3]at f2;replace f2:Rd enc Tryz.prog w 3 [v2]:=f2;have f3:Rd enc Tryz.prog w 3 ((([v0,v1,v2,v3,v4]:List Value).drop 3).take (Tryz.prog.cellsOf 3)):=hf 3 _ rfl;rw[c3]at f3;replace f3:Rd enc Tryz.prog w 3 [v3]:=f3;have f4:Rd enc Tryz.prog w 4 ((([v0,v1,v2,v3,v4]:List Value).drop 4).take (Tryz.prog.cellsOf 4)):=hf 4 _ rfl;rw[c4]at f4;replace f4:Rd enc Tryz.prog w 4 [v4]:=f4;obtain⟨n0,e0,-⟩:=f0.int Tryz.underlying3;obtain⟨n1,e1,-⟩:=f1.int Tryz.underlying3;obtain⟨n2,e2,-⟩:=f2.int Tryz.underlying3;obtain⟨n3,e3,-⟩:=f3.int Tryz.underlying3;obtain⟨b4,e4⟩:=f4.bool Tryz.underlying4;simp only[List.cons.injEq,and_true]at e0 e1 e2 e3 e4;subst e0 e1 e2 e3 e4;exact⟨⟨n0,n1,n2,n3,b4⟩,rfl⟩
theorem Eh{H:Type}{enc:TypeId× Value→H}{w:World}{a:Option Addr}{len cap:Nat}(h:Rd enc Tryz.prog w 22 [.slice a len cap]):
 ∃ts: List aj,ts.length=len∧ len≤cap∧ (a=none→ cap=0)∧dK w a ts:=by
 obtain⟨xs,h1,h2,h3,_,h5,_,hr⟩:=Rd.rows (α:=aj) (cells:=aj.cells) (size:=5) (good:=fun _=>True) (fun _=>rfl) d_ Tryz.underlying22 k_ (fun cs hcs=>by obtain⟨x,hx⟩:=Gs hcs;exact⟨x,hx,trivial⟩) h;exact⟨xs,h1,h2,h5,hr⟩
end Go.Proofs.YtfdmhpohfjbpfaaGreat
