import Derived.Outline
import Derived.OpenShut
import Derived.ShutString
import Derived.ChangeOld
import Derived.BigQuiet
import Derived.Deep.QuietTactic
import Derived.Deep.DeepFit
import Derived.StillTailTactics
import Derived.Deep.RegionWith
import Derived.ArgAppend
import Derived.Lib.SlBytesConst
import Derived.Deep.Slices
import Derived.Carry
import Derived.SizedLaws
import Derived.Deep.MidRow
import Derived.Test.YtoeofkcpclfnhaaGreatSrW
set_option linter.unusedVariables false
set_option linter.unusedSimpArgs false
namespace Go.Proofs.YtoeofkcpclfnhaaGreat
open Go.ChangeShapes Go.WideShapes Go.ChangeAt Go.RowKit
set_option maxRecDepth 100000
set_option maxHeartbeats 16000000
theorem ret_int{k:IntKind}{a b:Int}(h:a= b):Ending.returned (.int k a)= .returned (.int k b):=by rw[h]
theorem val_int{k:IntKind}{a b:Int}(h:a= b):Value.int k a= .int k b:=by rw[h]
def Row(w:World)(a:Option Addr)(xs:List Value):Prop:=
 xs=[]∨∃b o,a=some ⟨b,o,none⟩∧∀i (h:i< xs.length),w.cell? ⟨b,o+i,none⟩=some xs[i]
abbrev RowB(w:World)(a:Option Addr)(l:List UInt8):Prop:= Row w a (l.map B)
theorem Row.nil(w:World)(a:Option Addr):Row w a []:= .inl rfl
theorem Row.at{w:World}{a:Option Addr}{xs:List Value}(h:Row w a xs){k:Nat}(hk:k< xs.length):
 ∃b o,a=some ⟨b,o,none⟩∧∀i (h:i< xs.length),w.cell? ⟨b,o+i,none⟩=some xs[i]:=by
 rcases h with rfl|h
 ·simp at hk
 ·exact h
theorem RowB.at{w:World}{a:Option Addr}{l:List UInt8}(h:RowB w a l){k:Nat}(hk:k< l.length):
 ∃b o,a=some ⟨b,o,none⟩∧∀i (h:i< l.length),w.cell? ⟨b,o+i,none⟩=some (.int .u8 (l[i].toNat:Int)):=by
 obtain⟨b,o,ha,hc⟩:=Row.at h (k:=k) (by simpa using hk);exact⟨b,o,ha,fun i hi=>by have:=hc i (by simpa using hi);rw[List.getElem_map]at this;exact this⟩
theorem maxLen_eq:maxLen= 9223372036854775807:=d_
theorem lt_maxLen{n:Nat}(h:n≤ maxLen):n≤ 9223372036854775807:=maxLen_eq▸ h
structure Elem(P:Program)(t e:TypeId)(size bytes:Nat):Prop where
 under:P.underlying t=some (.slice e)
 info:∃i z,P.info? e=some i∧i.zero= some z∧i.size= size∧i.bytes= bytes∧z.cells.size= size
 pos:0< size
 bpos:0< bytes
theorem run_append_nil{P:Program}{w:World}(base:Nat)(t ty e:TypeId)(i:TypeInfo)(size:Nat)(ht:P.underlying t=some (.slice e))(hi:P.info? e=some i)(v:Value)(n c:Nat)(xs:List Value)(hown:w.ownsRow base e size v n xs):
 (Builtin.append_ #[t,t] ty #[v,.slice none 0 c]).run P w= .ok v w:=by
 rcases hown.2 with⟨rfl,rfl⟩|⟨g,cap,cur,rfl,_,_,hnc,_⟩
 ·simp[Builtin.append_,run_underlying ht,sizeOf,typeInfo,hi,Builtin.lenOf,Builtin.firstCells]
 ·simp[Builtin.append_,run_underlying ht,sizeOf,typeInfo,hi,Builtin.lenOf,Builtin.firstCells,hnc,storeCells]
theorem own_slice{w:World}{base:Nat}{e:TypeId}{size:Nat}{v:Value}{n:Nat}{xs:List Value}(h:w.ownsRow base e size v n xs):
 ∃a c,v= .slice a n c∧n≤ c∧c≤ maxLen∧(a=none→ c=0):=by
 rcases h.2 with⟨rfl,rfl⟩|⟨g,cap,cur,rfl,_,_,hnc,hm,_⟩
 ·exact⟨none,0,rfl,Nat.le_refl _,Nat.zero_le _,fun _=>rfl⟩
 ·exact⟨_,cap,rfl,hnc,hm,fun h=>by simp at h⟩
theorem own_row{w:World}{base:Nat}{e:TypeId}{size:Nat}{a:Option Addr}{n c:Nat}{xs:List Value}(h:w.ownsRow base e size (.slice a n c) n xs):Row w a xs:=by
 obtain⟨hl,h⟩:=h;rcases h with⟨hv,rfl⟩|⟨g,cap,cur,hv,_,hg,hnc,hm,hs,ht⟩
 ·exact .inl (List.eq_nil_of_length_eq_zero (by simpa using hl))
 ·simp only[Value.slice.injEq]at hv;obtain⟨rfl,_,rfl⟩:=hv;refine .inr ⟨g,0,rfl,fun i hi=> ?_⟩;subst ht;have hi2:i< n*size:= by simp at hi;omega
  have h2:n* size≤cur.size:= by rw[hs];exact Nat.mul_le_mul_right _ hnc
  simp only[World.cell?,hg,Nat.zero_add,Option.isSome_none,Bool.false_eq_true,if_false];rw[Array.getElem?_eq_getElem o_];simp
theorem tq1 {P:Prop}(h:P:=by
 simp only[Option.some.injEq]at ha;subst ha;obtain⟨hj1,rfl⟩:=List.getElem?_eq_some_iff.1 hj;have:=hc j hj1;by_cases h0:j= 0
 ·subst h0;simpa[Addr.add]using this
 ·simpa[Addr.add,h0]using this):P:=h
theorem wpList_app{P:Program}{w:World}{ops:Array Oper}{rest:List Oper}{o:Oper}{a:Act}{Q:Exit→ Act→World→ Prop}{t e:TypeId}{size bytes:Nat}(el:Elem P t e size bytes)(hgd:o.guard= none)(s x:Operand)(ho:o.op= .call {callee:= .builtin .append,args:= #[s,x],argTypes:= #[t,t]})(base:Nat)(v:Value)(n:Nat)(xs:List Value)(hs:a.eval s=v)(hown:w.ownsRow base e size v n xs)(ad:Option Addr)(m c:Nat)(news:List Value)(hx:a.eval x= .slice ad m c)(hl:news.length= m*size)(hr:Row w ad news)(h1:∀u∈ news,u.oneCell'=true)(hbytes:(n+m)*bytes≤ 140737488355328)(hbase:base≤ w.heap.size)(h:∀a' c' w',w'.ownsRow base e size (.slice a' (n+m) c') (n+m) (xs++news)→w.grownBy w' v.ownBlock→wpList P ops Q rest (a.put o.dst (.slice a' (n+m) c')) w'):wpList P ops Q (o::rest) a w:=by
 obtain⟨i,z,hi,hz,hsize,hby,hzs⟩:=el.info;have hb:=el.bpos;have h63:n+ m≤maxLen:= by
  have:n+ m≤(n+m)*bytes:= Nat.le_mul_of_pos_right _ hb;unfold maxLen;omega
 cases ad with
 |some ad=>
  refine wpList_append_own w hgd s x t ho base e i z size bytes el.under hi hz hsize hby hzs el.pos v n xs hs hown ad m c news hx hl ?_ h1 h63 hbytes hbase ?_
  ·intro j u hj;rcases hr with rfl|⟨b,o,ha,hc⟩
   ·simp at hj
   ·exact tq1
  ·intro v' w' ho' hg' _;obtain⟨a',c',rfl,_⟩:=own_slice ho';exact h a' c' w' ho' hg'
 |none=>
  rcases hr with rfl|⟨b,o,ha,hc⟩
  ·have hm:m= 0:=by
    have hp:=el.pos;rcases Nat.eq_zero_or_pos m with h|h
    ·exact h
    ·have:=Nat.mul_pos h hp;simp at hl;omega
   subst hm;refine wpList_plain hgd fun K hK=> ?_
   unfold Oper.wp execOp;have hrun2:=run_append_nil (P:=P) (w:=w) base t o.type e i size el.under hi v n c xs hown;simp only[ho,resolve,invoke,builtin,Sem.run_bind,Sem.run_pure,Result.andThen_ok,List.map_toArray,List.map_cons,List.map_nil,hs,hx,hrun2];obtain⟨a',c',rfl,_⟩:=own_slice hown;refine hK _ _ (h a' c' w ?_ ⟨rfl,rfl,rfl,Nat.le_refl _,fun _ _ _=>rfl⟩);rw[Nat.add_zero,List.append_nil];exact hown
  ·simp at ha
theorem Row.lt{w:World}{b o:Nat}{xs:List Value}(h:Row w (some ⟨b,o,none⟩) xs)(h0:xs≠ []):b< w.heap.size:=by
 rcases h with h|⟨b',o',ha,hc⟩
 ·exact absurd h h0
 ·simp at ha;obtain⟨rfl,rfl⟩:=ha;exact World.block_lt_of_cell? w _ (hc 0 (List.length_pos_iff.2 h0))
theorem Row.get{w:World}{a:Option Addr}{xs:List Value}{k:Nat}{x:Value}(h:Row w a xs)(hk:xs[k]? =some x):
 ∃b o,a=some ⟨b,o,none⟩∧w.cell? ⟨b,o+k,none⟩=some x:=by
 obtain⟨hlt,rfl⟩:=List.getElem?_eq_some_iff.1 hk;obtain⟨b,o,rfl,hc⟩:=h.at hlt;exact⟨b,o,rfl,hc k hlt⟩
theorem Row.below{w w':World}{a:Option Addr}{xs:List Value}(h:Row w a xs)(hb:Below w.heap.size w w'):Row w' a xs:=by
 by_cases h0:xs= []
 ·exact .inl h0
 ·rcases h with h|⟨b,o,rfl,hc⟩
  ·exact absurd h h0
  ·have hlt:=Row.lt (.inr ⟨b,o,rfl,hc⟩) h0;exact .inr ⟨b,o,rfl,fun i hi=>(hb.cell (p:=⟨b,o+i,none⟩) hlt).trans (hc i hi)⟩
theorem Row.alloc{w:World}{a:Option Addr}{xs:List Value}(h:Row w a xs)(o:Obj):Row (w.alloc o) a xs:=h.below (b_.alloc n_ o)
theorem Row.drew{w:World}{a:Option Addr}{xs:List Value}(h:Row w a xs):Row w.drew a xs:=h
theorem Row.of_block{w:World}{g:Nat}{cs:Array Value}{e:TypeId}{f:Nat× Nat}(h:w.heap[g]? =some (.cells cs e f)):Row w (some ⟨g,0,none⟩) cs.toList:=by
 refine .inr ⟨g,0,rfl,fun i hi=> ?_⟩;simp only[World.cell?,h,Nat.zero_add,Option.isSome_none,Bool.false_eq_true,if_false];rw[Array.getElem?_eq_getElem (by simpa using hi)];simp
theorem Row.new(w:World)(cs:Array Value)(e:TypeId)(f:Nat× Nat):Row (w.alloc (.cells cs e f)) (some ⟨w.heap.size,0,none⟩) cs.toList:=Row.of_block (heap_alloc_new w _)
theorem Row.take{w:World}{a:Option Addr}{xs:List Value}(h:Row w a xs)(j:Nat):Row w a (xs.take j):=by
 rcases h with rfl|⟨b,o,ha,hc⟩
 ·exact .inl (by simp)
 ·exact .inr ⟨b,o,ha,fun i hi=>by
   have hi2:i< xs.length:=by simp at hi;omega
   rw[hc i hi2];simp⟩
theorem Row.drop{w:World}{b o:Nat}{xs:List Value}(h:Row w (some ⟨b,o,none⟩) xs)(j:Nat):Row w (some ⟨b,o+j,none⟩) (xs.drop j):=by
 rcases h with rfl|⟨b',o',ha,hc⟩
 ·exact .inl (by simp)
 ·simp only[Option.some.injEq,Addr.mk.injEq,and_true]at ha;obtain⟨rfl,rfl⟩:=ha
  exact .inr ⟨b,o+j,rfl,fun i hi=>by
   have hi2:j+ i<xs.length:= by simp at hi;omega
   have:=hc (j+i) hi2
   rw[Nat.add_assoc,this];simp⟩
theorem Below.app{B0:Nat}{w0 w w':World}{e:TypeId}{size n:Nat}{v:Value}{xs:List Value}(h:Below B0 w0 w)(hown:w.ownsRow B0 e size v n xs)(hg:w.grownBy w' v.ownBlock)(hB:B0≤ w.heap.size):Below B0 w0 w':=
 h.grown hg hB fun k hk=>(hown.lt k hk).1
theorem flatMap_at{α:Type}{cells:α→ List Value}{size:Nat}(hs:∀x,(cells x).length=size):∀ {xs:List α} {i r:Nat},r<size→ (xs.flatMap cells)[i*size+ r]? =(xs[i]?).bind fun x=>(cells x)[r]?
 |[],i,r,_=>by simp
 |x:: xs,0,r,hr=>by
  simp only[List.flatMap_cons,Nat.zero_mul,Nat.zero_add,List.getElem?_cons_zero,Option.bind_some];rw[List.getElem?_append_left (by rw[hs];exact hr)]
 |x:: xs,i+1,r,hr=>by
  simp only[List.flatMap_cons,List.getElem?_cons_succ];rw[List.getElem?_append_right (by rw[hs,Nat.succ_mul];omega),hs,Nat.succ_mul,show i*size+ size+r- size=i* size+r from by omega];exact flatMap_at hs hr
theorem flatMap_len{α:Type}{cells:α→ List Value}{size:Nat}(hs:∀x,(cells x).length=size)(xs:List α):(xs.flatMap cells).length=xs.length* size:=by
 induction xs with
 |nil=> simp
 |cons x xs ih=>rw [List.flatMap_cons,List.length_append,ih,hs,List.length_cons,Nat.succ_mul];omega
theorem Row.holds{w:World}{ad:Addr}{xs:List Value}(h:Row w (some ad) xs):∀j u,xs[j]? =some u→w.cell? (ad.add j)=some u:=by
 intro j u hj;rcases h with rfl|⟨b,o,ha,hc⟩
 ·simp at hj
 ·exact tq1
def Can(w:World)(B:Nat)(e:TypeId)(size:Nat)(a:Option Addr)(n c:Nat)(xs:List Value):Prop:=
 xs.length=n* size∧n≤ maxLen∧((n=c∧ Row w a xs)∨w.ownsRow B e size (.slice a n c) n xs)
theorem Can.nil(w:World)(B:Nat)(e:TypeId)(size:Nat):Can w B e size none 0 0 []:=⟨by simp,Nat.zero_le _,.inl ⟨rfl,.inl rfl⟩⟩
theorem Can.empty(w:World)(B:Nat)(e:TypeId)(size:Nat)(a:Option Addr):Can w B e size a 0 0 []:=⟨by simp,Nat.zero_le _,.inl ⟨rfl,.inl rfl⟩⟩
theorem Can.full{w:World}{B:Nat}{e:TypeId}{size:Nat}{a:Option Addr}{n:Nat}{xs:List Value}(h:Row w a xs)(hl:xs.length= n*size)(hn:n≤ maxLen):Can w B e size a n n xs:=⟨hl,hn,.inl ⟨rfl,h⟩⟩
theorem Can.row{w:World}{B:Nat}{e:TypeId}{size:Nat}{a:Option Addr}{n c:Nat}{xs:List Value}(h:Can w B e size a n c xs):Row w a xs:=by
 rcases h.2.2 with⟨_,h⟩|h
 ·exact h
 ·exact own_row h
theorem Can.le{w:World}{B:Nat}{e:TypeId}{size:Nat}{a:Option Addr}{n c:Nat}{xs:List Value}(h:Can w B e size a n c xs):n≤ c:=by
 rcases h.2.2 with⟨h,_⟩|h
 ·omega
 ·obtain⟨a',c',hv,hl,_⟩:=own_slice h;simp only[Value.slice.injEq]at hv;omega
theorem Can.none{w:World}{B:Nat}{e:TypeId}{size:Nat}{a:Option Addr}{n c:Nat}{xs:List Value}(h:Can w B e size a n c xs)(hp:0< size):a= none→c= 0:=by
 intro ha;rcases h.2.2 with⟨rfl,hr⟩|h2
 ·rcases hr with rfl|⟨_,_,h3,_⟩
  ·rcases Nat.eq_zero_or_pos n with h4|h4
   ·exact h4
   ·have:=Nat.mul_pos h4 hp;have h0:=h.1;simp at h0;omega
  ·rw[ha]at h3;simp at h3
 ·obtain⟨a',c',hv,_,_,hc⟩:=own_slice h2;simp only[Value.slice.injEq]at hv;obtain⟨rfl,_,rfl⟩:=hv;exact hc ha
theorem own_block{w:World}{B:Nat}{e:TypeId}{size:Nat}{a:Option Addr}{n c:Nat}{xs:List Value}(h:w.ownsRow B e size (.slice a n c) n xs):∀b o s,a=some ⟨b,o,s⟩→B≤ b:=by
 intro b o s ha;exact(h.lt b (by rw[ha];rfl)).1
def Near(B:Nat)(src a:Option Addr):Prop:= ∀b o s,a=some ⟨b,o,s⟩→B≤ b∨∃o' s',src=some ⟨b,o',s'⟩
theorem Near.self(B:Nat)(a:Option Addr):Near B a a:=fun b o s h=> .inr ⟨o,s,h⟩
theorem Near.nil(B:Nat)(src:Option Addr):Near B src none:=fun _ _ _ h=>by cases h
theorem Near.own{w:World}{B B':Nat}{e:TypeId}{size:Nat}{a src:Option Addr}{n c:Nat}{xs:List Value}(h:w.ownsRow B e size (.slice a n c) n xs)(hB:B'≤ B):Near B' src a:=
 fun b o s ha=> .inl (Nat.le_trans hB (own_block h b o s ha))
theorem Near.mono{B B':Nat}{src a:Option Addr}(h:Near B src a)(hB:B'≤ B):Near B' src a:=fun b o s ha=>(h b o s ha).imp (Nat.le_trans hB) id
theorem Near.trans{B:Nat}{src a b:Option Addr}(h:Near B src a)(h2:Near B a b):Near B src b:=fun x o s hb=>by
 rcases h2 x o s hb with h3|⟨o',s',h3⟩
 ·exact .inl h3
 ·exact h x o' s' h3
theorem Can.drew{w:World}{B:Nat}{e:TypeId}{size:Nat}{a:Option Addr}{n c:Nat}{xs:List Value}(h:Can w B e size a n c xs):Can w.drew B e size a n c xs:=h
theorem run_can{P:Program}{w:World}{t e:TypeId}{size bytes:Nat}(el:Elem P t e size bytes)(ty:TypeId)(B:Nat)(a:Option Addr)(n c:Nat)(xs:List Value)(hcan:Can w B e size a n c xs)(ad:Option Addr)(m k:Nat)(news:List Value)(hl:news.length= m*size)(hr:Row w ad news)(h1:∀u∈ news,u.oneCell'=true)(hbytes:(n+m)*bytes≤ 140737488355328)(hB:B≤ w.heap.size):
 ∃a' c' w',(Builtin.append_ #[t,t] ty #[.slice a n c,.slice ad m k]).run P w= .ok (.slice a' (n+m) c') w'∧Can w' B e size a' (n+m) c' (xs++news)∧w.grownBy w' (Value.slice a n c).ownBlock∧Below B w w'∧(0<m→ w'.ownsRow B e size (.slice a' (n+m) c') (n+m) (xs++news))∧(m=0→ a'=a∧ c'=c):=by
 obtain⟨i,z,hi,hz,hsize,hby,hzs⟩:=el.info;have hb:=el.bpos;have hp:=el.pos;have h63:n+ m≤maxLen:= by
  have:n+ m≤(n+m)*bytes:= Nat.le_mul_of_pos_right _ hb;unfold maxLen;omega
 have hlen:(xs++news).length=(n+m)*size:= by rw[List.length_append,hcan.1,hl,Nat.add_mul]
 by_cases hm:m= 0
 ·subst hm;obtain rfl:news= []:=List.eq_nil_of_length_eq_zero (by simpa using hl);refine⟨a,c,w,?_,?_,⟨rfl,rfl,rfl,Nat.le_refl _,fun _ _ _=>rfl⟩,Below.refl _ _,fun h=>absurd h o_,fun _=>⟨rfl,rfl⟩⟩
  ·have hle:=hcan.le;have hfc:∀w': World,(Builtin.firstCells size 0 (.slice ad 0 k)).run P w'= .ok #[] w':=fun w'=>by
    cases ad with
    |none=> simp[Builtin.firstCells]
    |some ad=>exact run_firstCells_some w' size 0 ad 0 k [] (by simp) (fun j u h=>by simp at h)
   rw[←hsize]at hfc;cases a with
   |none=> simp[Builtin.append_,run_underlying el.under,sizeOf,typeInfo,hi,Builtin.lenOf,hle,hfc]
   |some x=>simp [Builtin.append_,run_underlying el.under,sizeOf,typeInfo,hi,Builtin.lenOf,hle,hfc,storeCells]
  ·rw[Nat.add_zero,List.append_nil];exact hcan
 ·obtain⟨ad',rfl⟩:∃x,ad=some x:=by
   cases ad with
   |some x=>exact ⟨x,rfl⟩
   |none=>
    rcases hr with rfl|⟨_,_,h,_⟩
    ·have:=Nat.mul_pos (Nat.pos_of_ne_zero hm) hp;simp at hl;omega
    ·simp at h
  rcases hcan.2.2 with⟨rfl,hrow⟩|hown
  ·have fin:∀v' w',w'.ownsRow w.heap.size e size v' (n+m) (xs++news)→w.grownBy w' none→
    ∃a' c',v'= .slice a' (n+m) c'∧Can w' B e size a' (n+m) c' (xs++news)∧w.grownBy w' (Value.slice a n n).ownBlock∧Below B w w'∧(0<m→ w'.ownsRow B e size (.slice a' (n+m) c') (n+m) (xs++news))∧(m=0→ a'=a∧ c'=n):=by
    intro v' w' ho hg;obtain⟨a',c',rfl,hc1,hc2,_⟩:=own_slice ho;have hB2:w'.ownsRow B e size (.slice a' (n+m) c') (n+m) (xs++news):=by
     obtain⟨ho1,ho2⟩:=ho;refine⟨ho1,?_⟩;rcases ho2 with h|⟨g,cap,cur,h2,h3,h4⟩
     ·exact .inl h
     ·exact .inr ⟨g,cap,cur,h2,Nat.le_trans hB h3,h4⟩
    exact⟨a',c',rfl,⟨hlen,h63,.inr hB2⟩,⟨hg.os,hg.tape,hg.output,hg.size,fun q hq _=>hg.block q hq (by simp)⟩,(Below.refl B w).grown hg hB (fun _ h=>by cases h),fun _=>hB2,fun h=>absurd h hm⟩
   cases a with
   |some x=>
    obtain⟨v',w',hrun,ho,hg⟩:=run_append_arg_grows w t ty e i z size bytes el.under hi hz hsize hby hzs hp x n n xs hcan.1 hrow.holds ad' m k news hl hr.holds o_ h63 hbytes;obtain⟨a',c',rfl,h⟩:=fin v' w' ho hg;exact⟨a',c',w',hrun,h⟩
   |none=>
    have hx:xs= []:=by
     rcases hrow with h|⟨_,_,h,_⟩
     ·exact h
     ·simp at h
    subst hx;have hn:n= 0:=by
     rcases Nat.eq_zero_or_pos n with h|h
     ·exact h
     ·have:=Nat.mul_pos h hp;have h0:=hcan.1;simp at h0;omega
    subst hn;obtain⟨v',w',hrun,ho,hg,_⟩:=run_append_own w w.heap.size t ty e i z size bytes el.under hi hz hsize hby hzs hp (.slice none 0 0) 0 [] (World.ownsRow_nil _ _ _ _) ad' m k news hl hr.holds h1 h63 hbytes n_;obtain⟨a',c',rfl,h⟩:=fin v' w' ho hg;exact⟨a',c',w',hrun,h⟩
  ·obtain⟨v',w',hrun,ho,hg,_⟩:=run_append_own w B t ty e i z size bytes el.under hi hz hsize hby hzs hp (.slice a n c) n xs hown ad' m k news hl hr.holds h1 h63 hbytes hB;obtain⟨a',c',rfl,hc1,hc2,_⟩:=own_slice ho;exact⟨a',c',w',hrun,⟨hlen,h63,.inr ho⟩,hg,Below.app (Below.refl B w) hown hg hB,fun _=>ho,fun h=>absurd h hm⟩
theorem wpList_can{P:Program}{w:World}{ops:Array Oper}{rest:List Oper}{o:Oper}{ac:Act}{Q:Exit→ Act→World→ Prop}{t e:TypeId}{size bytes:Nat}(el:Elem P t e size bytes)(hgd:o.guard= none)(s x:Operand)(ho:o.op= .call {callee:= .builtin .append,args:= #[s,x],argTypes:= #[t,t]})(B:Nat)(a:Option Addr)(n c:Nat)(xs:List Value)(hs:ac.eval s= .slice a n c)(hcan:Can w B e size a n c xs)(ad:Option Addr)(m k:Nat)(news:List Value)(hx:ac.eval x= .slice ad m k)(hl:news.length= m*size)(hr:Row w ad news)(h1:∀u∈ news,u.oneCell'=true)(hbytes:(n+m)*bytes≤ 140737488355328)(hB:B≤ w.heap.size)(h:∀a' c' w',Can w' B e size a' (n+m) c' (xs++news)→w.grownBy w' (Value.slice a n c).ownBlock→Below B w w'→(0<m→ w'.ownsRow B e size (.slice a' (n+m) c') (n+m) (xs++news))∧(m=0→ a'=a∧ c'=c)→wpList P ops Q rest (ac.put o.dst (.slice a' (n+m) c')) w'):wpList P ops Q (o::rest) ac w:=by
 obtain⟨a',c',w',hrun,h2,h3,h4,h5⟩:=run_can el o.type B a n c xs hcan ad m k news hl hr h1 hbytes hB;refine wpList_plain hgd fun K hK=> ?_
 unfold Oper.wp execOp;simp only[ho,resolve,invoke,builtin,Sem.run_bind,Sem.run_pure,Result.andThen_ok,List.map_toArray,List.map_cons,List.map_nil,hs,hx,hrun];exact hK _ _ (h a' c' w' h2 h3 h4 h5)
theorem flatMap_drop{α:Type}{cells:α→ List Value}{size:Nat}(hs:∀x,(cells x).length=size):∀(xs:List α) (k:Nat),(xs.flatMap cells).drop (k*size)=(xs.drop k).flatMap cells
 |[],k=>by simp
 |x:: xs,0=>by simp
 |x:: xs,k+1=> by
  rw[List.flatMap_cons,List.drop_succ_cons,Nat.succ_mul,Nat.add_comm,←hs x,←List.drop_drop,List.drop_left,hs x];exact flatMap_drop hs xs k
theorem flatMap_take{α:Type}{cells:α→ List Value}{size:Nat}(hs:∀x,(cells x).length=size):∀(xs:List α) (k:Nat),(xs.flatMap cells).take (k*size)=(xs.take k).flatMap cells
 |[],k=>by simp
 |x:: xs,0=>by simp
 |x:: xs,k+1=> by
  rw[List.flatMap_cons,List.take_succ_cons,List.flatMap_cons,Nat.succ_mul,Nat.add_comm,←hs x,List.take_length_add_append,hs x];rw[flatMap_take hs xs k]
theorem own_cells{w w':World}{c:Array Value}{e:TypeId}(hb:Below (w.alloc (.cells c e)).heap.size (w.alloc (.cells c e)) w'):∀j,w'.cell? ⟨w.heap.size,j,none⟩=c[j]?:=
 fun j=>(hb.cell (p:=⟨w.heap.size,j,none⟩) (by simp)).trans (World.cell?_alloc_at _ _ _ j rfl)
theorem Below.more{w w1:World}(h:Below w.heap.size w w1)(o:Obj):Below w.heap.size w (w1.alloc o):=h.alloc h.size o
theorem Below.next{w w1 w2:World}(h:Below w.heap.size w w1)(k:Below w1.heap.size w1 w2):Below w.heap.size w w2:=h.trans (k.mono h.size)
theorem Below.put{w w1:World}{p:Addr}(h:Below w.heap.size w w1)(hp:w.heap.size≤ p.block)(u:Value):Below w.heap.size w (w1.setCell p u):=h.setCell hp u
theorem Below.size'{w w1:World}(h:Below w.heap.size w w1):w.heap.size≤ w1.heap.size:=h.size
theorem below_drewN{B:Nat}{a w:World}(h:Below B a w)(n:Nat):Below B a (w.drewN n):=⟨h.os,h.tape,h.output,h.size,h.block⟩
theorem belo{n:Nat}{w w':World}(h:Below n w w':=by repeat' (first|(with_reducible exact Below.refl _ _)|(with_reducible assumption)|(with_reducible refine Below.drew ?_)|(with_reducible refine Below.more ?_ _)|(with_reducible refine Below.put ?_ ?_ _)|(with_reducible refine Below.next ?_ (by with_reducible assumption))|(with_reducible exact Nat.le_refl _)|(with_reducible refine Below.size' ?_)|omega)):Below n w w':=h
end Go.Proofs.YtoeofkcpclfnhaaGreat
namespace Go.Proofs.YtoeofkcpclfnhaaGreat
open Go.ChangeShapes Go.WideShapes Go.ChangeAt Go.RowKit Go.Deep
set_option maxRecDepth 100000
set_option maxHeartbeats 16000000
def Rd{H:Type}(enc:TypeId× Value→H)(P:Program)(w:World)(t:TypeId)(cs:List Value):Prop:=
 ∃fuel x,DataW.trod enc P w 0 (fun _=>true) true fuel t cs=some x∧∀n∈ x.1.weights P t,n≤reachBytes
def RdV{H:Type}(enc:TypeId× Value→H)(P:Program)(w:World)(t:TypeId)(v:Value):Prop:=
 (∃base,Value.okWide P w .any base t v)∧Rd enc P w t v.cells.toList
def RdAll{H:Type}(enc:TypeId× Value→H)(P:Program)(w:World):List TypeId→List Value→Prop
 |[],vs=>vs= []
 |t:: ts,vs=>∃v vs',vs=v:: vs'∧RdV enc P w t v∧RdAll enc P w ts vs'
section
variable {H:Type} {enc:TypeId× Value→H} {P:Program} {w:World} {t:TypeId}
theorem weights_sub{P:Program}{e:TypeId}{d:DataW H}{k:Nat}:∀ {l:List (DataW H)},d∈l→ k∈d.weights P e→k∈ DataW.weightsAll P e l
 |a:: l,hd,hk=>by
  rw[DataW.weightsAll,List.mem_append];rcases List.mem_cons.1 hd with rfl|h
  ·exact .inl hk
  ·exact .inr (weights_sub h hk)
theorem weights_sub_each{P:Program}{k:Nat}{t:TypeId}{d:DataW H}:∀ {ts:List TypeId} {l:List (DataW H)} {i:Nat},ts[i]? =some t→l[i]? =some d→k∈ d.weights P t→k∈ DataW.weightsEach P ts l
 |t:: ts,a::l,0,ht,hd,hk=>by
  simp at ht hd;subst ht;subst hd;rw[DataW.weightsEach,List.mem_append];exact .inl hk
 |_:: ts,_::l,i+1,ht,hd,hk=>by
  rw[DataW.weightsEach,List.mem_append];exact .inr (weights_sub_each (i:=i) (by simpa using ht) (by simpa using hd) hk)
 |[],_,_,ht,_,_=>by simp at ht
 |_:: _,[],_,_,hd,_=>by simp at hd
theorem Rd.int{k:IntKind}{cs:List Value}(ht:P.underlying t=some (.int k))(h:Rd enc P w t cs):∃n,cs=[.int k n]∧(Lit.int k n).wf=true:= by
 obtain⟨f,x,h,_⟩:=h;obtain⟨n,h1,_,h2⟩:=DataW.trod_int ht h;exact⟨n,h1,h2⟩
theorem Rd.bool{cs:List Value}(ht:P.underlying t=some .bool)(h:Rd enc P w t cs):∃b,cs=[.bool b]:=by
 obtain⟨f,x,h,_⟩:=h;obtain⟨b,h1,_⟩:=DataW.trod_bool ht h;exact⟨b,h1⟩
theorem Rd.slice{e:TypeId}{cs:List Value}(ht:P.underlying t=some (.slice e))(h:Rd enc P w t cs):
 cs=[.slice none 0 0]∨∃a len cap,cs=[.slice (some a) len cap]∧len≤ cap∧cap≤ maxLen∧cap* P.bytesOf e≤reachBytes∧
  ∀i,i<cap→ ∃c,w.cells? 0 (a.add (i*P.cellsOf e)) (P.cellsOf e)=some c∧Rd enc P w e c:=by
 obtain⟨f,x,h,hw⟩:=h;rcases open_slice ht h with⟨h1,_⟩|⟨a,len,cap,m,n,D,Pl,h1,_,hl,hc,hm,rfl,hel⟩
 ·exact .inl h1
 ·simp only[if_true]at hm;obtain rfl:=hm;simp only[DataW.weights,ht,List.length_map,List.length_range,List.mem_cons,List.mem_append]at hw;refine .inr ⟨a,len,m,h1,hl,hc,?_,fun i hi=> ?_⟩
  ·have:=hw _ (.inl rfl);rw[Nat.add_sub_cancel' hl]at this;exact this
  ·obtain⟨c,hc,hx⟩:=hel i hi;refine⟨c,hc,n,_,hx,fun k hk=>hw k (.inr ?_)⟩;by_cases h:i< len
   ·exact .inl (weights_sub (List.mem_map.2 ⟨i,by simpa using h,rfl⟩) hk)
   ·exact .inr (weights_sub (List.mem_map.2 ⟨i-len,by simp;omega,by rw[Nat.add_sub_cancel' o_]⟩) hk)
theorem Rd.struct{fs:Array Field}{cs:List Value}(ht:P.underlying t=some (.struct fs))(h:Rd enc P w t cs):
 cs.length=P.cellsOf t∧∀(i:Nat) (f:Field),fs[i]? =some f→Rd enc P w f.type ((cs.drop f.offset).take (P.cellsOf f.type)):=by
 obtain⟨f,x,h,hw⟩:=h;obtain⟨xs,n,_,rfl,hl,hx,hel⟩:=DataW.trod_struct ht h;simp only[DataW.weights,ht]at hw;refine⟨hl,fun i f hf=> ?_⟩;have:=hel i f hf;have hi:i< xs.length:=by
  rw[hx];exact(Array.getElem?_eq_some_iff.1 hf).1
 exact⟨n,xs[i],by rw[this,List.getElem?_eq_getElem hi],fun k hk=>hw k (weights_sub_each (i:=i) (by simpa using ⟨f,hf,rfl⟩) (by simp[List.getElem?_eq_getElem hi]) hk)⟩
theorem RdV.int{k:IntKind}{v:Value}(ht:P.underlying t=some (.int k))(h:RdV enc P w t v):∃n,v= .int k n∧(Lit.int k n).wf=true:= by
 obtain⟨⟨_,ho⟩,h⟩:=h;obtain⟨n,rfl⟩:=okWide_int ht ho;obtain⟨m,h1,h2⟩:=h.int ht;simp[Value.cells]at h1;subst h1;exact⟨_,rfl,h2⟩
theorem RdV.bool{v:Value}(ht:P.underlying t=some .bool)(h:RdV enc P w t v):∃b,v= .bool b:=by
 obtain⟨⟨_,ho⟩,h⟩:=h;exact okWide_bool ht ho
theorem RdV.slice{e:TypeId}{v:Value}(ht:P.underlying t=some (.slice e))(h:RdV enc P w t v):∃a len cap,v= .slice a len cap∧Rd enc P w t [.slice a len cap]:=by
 obtain⟨⟨_,ho⟩,h⟩:=h;obtain⟨a,len,cap,rfl⟩:=okWide_slice ht ho;exact⟨a,len,cap,rfl,h⟩
theorem RdV.struct{fs:Array Field}{v:Value}(ht:P.underlying t=some (.struct fs))(h:RdV enc P w t v):∃cs: List Value,v= .agg cs.toArray∧Rd enc P w t cs:=by
 obtain⟨⟨_,ho⟩,h⟩:=h;obtain⟨cs,rfl,_⟩:=okWide_struct ht ho;exact⟨cs.toList,by simp,h⟩
theorem Rd.rows{α:Type}{e:TypeId}{a:Option Addr}{len cap size:Nat}{cells:α→ List Value}{good:α→ Prop}(hs:∀x,(cells x).length=size)(hpos:0< size)(ht:P.underlying t=some (.slice e))(hc:P.cellsOf e=size)(each:∀cs,Rd enc P w e cs→∃x,cs=cells x∧good x)(h:Rd enc P w t [.slice a len cap]):
 ∃xs: List α,xs.length=len∧ len≤cap∧ cap≤maxLen∧ cap*P.bytesOf e≤reachBytes∧ (a=none→ cap=0)∧(∀x∈ xs,good x)∧Row w a (xs.flatMap cells):=by
 rcases h.slice ht with h1|⟨x,l,c,h1,hl,hm,hby,hel⟩
 ·simp at h1;obtain⟨rfl,rfl,rfl⟩:=h1;exact⟨[],rfl,Nat.le_refl _,Nat.zero_le _,by simp,fun _=>rfl,by simp,.inl rfl⟩
 ·simp at h1;obtain⟨rfl,rfl,rfl⟩:=h1;rw[hc]at hel;have hv:∀i,i<len→ ∃y: α,good y∧w.cells? 0 (x.add (i*size)) size=some (cells y):=by
   intro i hi;obtain⟨cs,hcs,hr⟩:=hel i o_;obtain⟨y,rfl,hy⟩:=each _ hr;exact⟨y,hy,hcs⟩
  by_cases h0:len= 0
  ·subst h0;exact⟨[],rfl,Nat.zero_le _,hm,hby,fun e=>by simp at e,by simp,.inl rfl⟩
  ·obtain⟨y0,_⟩:=hv 0 o_;have:Inhabited α:=⟨y0⟩;obtain⟨g,hg⟩:=choose_lt (p:=fun i y=>good y∧w.cells? 0 (x.add (i*size)) size=some (cells y)) hv;have hcell:∀i r,i<len→ r<size→ w.cell? ((x.add (i*size)).add r)=(cells (g i))[r]?:=by
    intro i r hi hr;obtain⟨_,_,hall⟩:=World.cells?_some (hg i hi).2;exact hall r hr
   have hspot:x.spot= none:=by
    have h1:=hcell 0 0 o_ hpos;obtain⟨v,hv⟩:∃v,(cells (g 0))[0]? =some v:=by
     cases hh:(cells (g 0))[0]? with
     |some v=>exact ⟨v,rfl⟩
     |none=> rw[List.getElem?_eq_none_iff,hs]at hh;omega
    have:=World.cell?_spot (h1.trans hv);simpa[Addr.add]using this
   obtain⟨b,o,spot⟩:=x;simp only at hspot;subst hspot;refine⟨(List.range len).map g,by simp,hl,hm,hby,fun e=>by simp at e,?_,.inr ⟨b,o,rfl,fun j hj=> ?_⟩⟩
   ·intro y hy;obtain⟨i,hi,rfl⟩:=List.mem_map.1 hy;exact(hg i (by simpa using hi)).1
   ·have hlen:=flatMap_len hs ((List.range len).map g);rw[List.length_map,List.length_range]at hlen;have hj2:j< len*size:= by rw[←hlen];exact hj
    have hi:j/ size<len:= Nat.div_lt_of_lt_mul (by rw[Nat.mul_comm];exact hj2);have hr:j% size<size:= Nat.mod_lt _ hpos;have hjj:j/ size*size+ j%size= j:=by rw[Nat.mul_comm];exact Nat.div_add_mod j size
    have h1:=flatMap_at hs (xs:=(List.range len).map g) (i:=j/ size) hr;rw[hjj]at h1;have h2:=hcell (j/size) (j%size) hi hr;have h3:((⟨b,o,none⟩:Addr).add (j/size* size)).add (j%size)=⟨b,o+j,none⟩:=by
     rw[add_add,hjj];unfold Addr.add;by_cases hz:j= 0
     ·subst hz;simp
     ·simp[hz]
    rw[h3]at h2;rw[h2,←List.getElem?_eq_getElem hj,h1,List.getElem?_map,List.getElem?_range hi];rfl
theorem Rd.ints{e:TypeId}{k:IntKind}{a:Option Addr}{len cap:Nat}(ht:P.underlying t=some (.slice e))(he:P.underlying e=some (.int k))(hc:P.cellsOf e=1)(h:Rd enc P w t [.slice a len cap]):
 ∃zs: List Int,zs.length=len∧ len≤cap∧ cap≤maxLen∧ cap*P.bytesOf e≤reachBytes∧ (∀n∈ zs,(Lit.int k n).wf=true)∧(a=none→ cap=0)∧Row w a (zs.map (Value.int k)):=by
 rcases h.slice ht with h1|⟨x,l,c,h1,hl,hm,hby,hel⟩
 ·simp at h1;obtain⟨rfl,rfl,rfl⟩:=h1;exact⟨[],rfl,Nat.le_refl _,Nat.zero_le _,by simp,by simp,fun _=>rfl,.inl rfl⟩
 ·simp at h1;obtain⟨rfl,rfl,rfl⟩:=h1;rw[hc]at hel;have hv:∀i,i<len→ ∃n,(Lit.int k n).wf=true∧ w.cell? (x.add i)=some (.int k n):=by
   intro i hi;obtain⟨cs,hcs,hr⟩:=hel i o_;obtain⟨n,rfl,hw⟩:=hr.int he;refine⟨n,hw,?_⟩;rw[Nat.mul_one]at hcs;simp only[World.cells?,Nat.zero_le,if_true,List.range_succ,List.range_zero,List.nil_append]at hcs;have he:(x.add i).add 0=x.add i:=by simp[Addr.add]
   simp only[List.mapM_cons,List.mapM_nil,he]at hcs;revert hcs;cases w.cell? (x.add i)with
   |none=> intro h;cases h
   |some v=>intro h;simpa using h
  obtain⟨g,hg⟩:=choose_lt (p:=fun i n=>(Lit.int k n).wf=true∧ w.cell? (x.add i)=some (.int k n)) hv;refine⟨(List.range len).map g,by simp,hl,hm,hby,?_,fun e=>by simp at e,?_⟩
  ·intro n hn;obtain⟨i,hi,rfl⟩:=List.mem_map.1 hn;exact(hg i (by simpa using hi)).1
  ·by_cases h0:len= 0
   ·subst h0;exact .inl rfl
   ·have hs:=World.cell?_spot (hg 0 o_).2;have hspot:x.spot= none:=by simpa[Addr.add]using hs
    obtain⟨b,o,spot⟩:=x;simp only at hspot;subst hspot;refine .inr ⟨b,o,rfl,fun i hi=> ?_⟩;simp only[List.length_map,List.length_range]at hi;have:=(hg i hi).2;by_cases hi0:i= 0
    ·subst hi0;simpa[Addr.add]using this
    ·simpa[Addr.add,hi0]using this
theorem Rd.bytes{e:TypeId}{a:Option Addr}{len cap:Nat}(ht:P.underlying t=some (.slice e))(he:P.underlying e=some (.int .u8))(hc:P.cellsOf e=1)(h:Rd enc P w t [.slice a len cap]):
 ∃l: List UInt8,l.length=len∧ len≤cap∧ cap≤maxLen∧ cap*P.bytesOf e≤reachBytes∧ (a=none→ cap=0)∧RowB w a l:=by
 obtain⟨zs,h1,h2,h3,hby,h4,h5,h6⟩:=h.ints ht he hc;refine⟨zs.map fun z=>UInt8.ofNat z.toNat,by simpa using h1,h2,h3,hby,h5,?_⟩;have:(zs.map fun z=>UInt8.ofNat z.toNat).map B=zs.map (Value.int .u8):=by
  rw[List.map_map];refine List.map_congr_left fun z hz=> ?_
  obtain⟨b0,b1⟩:=bounds_u8 (h4 z hz);simp only[Function.comp,B]
  congr 1
  rw[UInt8.toNat_ofNat'];omega
 unfold RowB;rw[this];exact h6
end
theorem RdAll.of{H:Type}{enc:TypeId× Value→H}{P:Program}{w:World}{base:Nat}:∀ {ts:List TypeId} {vs:List Value} {ds:List (DataW H)} {p:List MemPlace},DataW.TrodAll enc P w 0 (fun _=>true) true ts vs ds p→
 (∀(j:Nat) t v,ts[j]? =some t→vs[j]? =some v→Value.okWide P w .any base t v)→(∀n∈ DataW.weightsEach P ts ds,n≤reachBytes)→RdAll enc P w ts vs
 |[],[],[],_,_,_,_=>rfl
 |t:: _,v::vs,_::_,_,⟨_,_,⟨fuel,hx⟩,h,_⟩,hok,hw=>
  ⟨v,vs,rfl,⟨⟨base,hok 0 t v rfl rfl⟩,fuel,_,hx,fun n hn=>hw n (by rw[DataW.weightsEach,List.mem_append];exact .inl hn)⟩,
   RdAll.of h (fun j t v ht hv=>hok (j+1) t v ht hv) (fun n hn=>hw n (by rw[DataW.weightsEach,List.mem_append];exact .inr hn))⟩
theorem trodAll_stays{H:Type}{enc:TypeId× Value→H}{P:Program}{W W':World}(hl:laidOutB P=true)(hb:Below W.heap.size W W'):∀ {ts:List TypeId} {vs:List Value} {ds:List (DataW H)} {p:List MemPlace},
 (∀t∈ ts,P.readableRec t=true∧ t<P.types.size)→DataW.TrodAll enc P W 0 (fun _=>true) true ts vs ds p→DataW.TrodAll enc P W' 0 (fun b=>decide (b<W.heap.size)) true ts vs ds p
 |[],[],[],_,_,h=>h
 |t:: ts,v::vs,d::ds,_,hall,⟨p,q,hx,h,rfl⟩=>
  ⟨_,_,Below.trod hl (hall t (by simp)).1 (hall t (by simp)).2 hx hb (by obtain⟨m,hm⟩:=hx;exact DataW.trod_lt m _ _ _ hm),trodAll_stays hl hb (fun t ht=>hall t (by simp[ht])) h,rfl⟩
theorem trodAll_length{H:Type}{enc:TypeId× Value→H}{P:Program}{W:World}{b:Nat}{sp:Nat→ Bool}{hd:Bool}:∀ {ts:List TypeId} {vs:List Value} {ds:List (DataW H)} {p:List MemPlace},
 DataW.TrodAll enc P W b sp hd ts vs ds p→ds.length= ts.length
 |[],[],[],_,_=>rfl
 |_:: _,_::_,_::_,_,⟨_,_,_,h,_⟩=>congrArg (· +1) (trodAll_length h)
theorem law_lifted{H:Type}{enc:TypeId× Value→H}{C:Checked}{os:Os}{f:FuncId}{fn:Func}{s:ChangeSpec}{boolT:TypeId}(own:ownKnob C.prog.godebug=none)(started:os.Started)(noInit:C.prog.inits.idxOf? f=none)(hfn:C.prog.funcs[f]? =some fn)(witness:∃(w:World) (tape:Tape) (i:Input),w.os=os∧ (w.forCall tape i).Shaped C.prog∧i.vars= []∧Input.okWide C.prog (w.forCall tape i) .any w.heap.size f i∧
 s.pre6 enc C.prog fn [] false (w.forCall tape i).memory i.args∧({}:Assume).holds C.prog (lone (Frame.enter C.prog f i.args .normal) [] (w.forCall tape i)))(hvars:s.vars= [])(hres:fn.resultTypes= #[boolT])(hbool:C.prog.underlying boolT=some .bool)(hlaid:laidOutB C.prog=true)(hpar0:(fn.params.toList.all fun t=>C.prog.readableRec t&&decide (t<C.prog.types.size))=true)(hspec:∀ds: List (DataW H),ds.length=fn.params.toList.length→ s.fn H ds={results:=[.lit (.bool true)],args:=ds})(walk:∀(W:World) (vs:List Value),RdAll enc C.prog W fn.params.toList vs→Calls C.prog f vs.toArray W fun e W'=>e= .returned (.bool true)∧Below W.heap.size W W'):
 ReturnsInHanded {} C os f .any (s.pre6 enc C.prog fn [] false) (s.post enc C.prog fn false true false false):=by
 have hpar:∀t∈ fn.params.toList,C.prog.readableRec t=true∧ t<C.prog.types.size:= fun t ht=>by
  have:=List.all_eq_true.1 hpar0 t ht;simpa using this
 refine returnsInHanded_of_change_sized own started noInit hfn witness ?_;intro W base args ds gs before hval hW hcnd hsz _;have hW':=hW;obtain⟨p,q,hA,hV,rfl,hfz,hnd⟩:=hW;rw[hvars]at hV;obtain⟨rfl,rfl⟩:gs= []∧q= []:=by
  cases gs with
  |nil=> exact⟨rfl,hV⟩
  |cons g gs=>exact hV.elim
 have hr:=RdAll.of (base:=base) hA (fun j t v ht hv=>hval j t v (by simpa using ht) (by simpa using hv)) (fun n hn=>by
  have hv0:s.plain.varTypes C.prog=[]:=by unfold DataSpec.varTypes ChangeSpec.plain;simp[hvars]
  rw[hv0,List.append_nil,List.append_nil]at hsz
  simpa using List.all_eq_true.1 hsz n hn)
 have hw:=walk W args.toList hr;rw[Array.toArray_toList]at hw;refine hw.mono fun e W' ⟨he,hb⟩=> ?_
 have hs:=hspec ds (trodAll_length hA);refine⟨_,he,ds,[],_,[],p,[],hW',?_,?_,?_,hb.frame _,fun h=>by cases h⟩
 ·rw[List.append_nil,hs,hres];exact trodAll_mk1 (shut_bool hbool _)
 ·rw[List.append_nil,hs];exact trodAll_stays hlaid hb hpar hA
 ·rw[List.append_nil,hs,hvars];rfl
theorem own:ownKnob Tryz.prog.godebug=none:= k_
theorem laidOut:laidOutB Tryz.prog=true:= k_
end Go.Proofs.YtoeofkcpclfnhaaGreat
namespace Go.Proofs.YtoeofkcpclfnhaaGreat
open Go.ChangeShapes Go.WideShapes Go.ChangeAt Go.RowKit
set_option maxRecDepth 100000
set_option maxHeartbeats 16000000
structure Lay(P:Program)(e:TypeId)(α:Type) where
 cells:α→ List Value
 val:α→ Value
 size:Nat
 bytes:Nat
 len:∀x,(cells x).length=size
 pos:0< size
 bpos:0< bytes
 one:∀x,∀u∈ cells x,u.oneCell'=true
 info:(P.info? e).map (fun i=>(i.zero.map fun z=>(z.cells.size,z.cells.all (·.oneCell')),i.size,i.bytes))=some (some (size,true),size,bytes)
 load:∀(w:World) b o x,w.rangeAt b o (cells x)→(Instr.loadAt e (.pointer (some ⟨b,o,none⟩))).run P w= .ok (val x) w
 store:∀(w:World) b o x,w.there b o size→(Instr.storeAt e (.pointer (some ⟨b,o,none⟩)) (val x)).run P w= .ok () (w.setCells b o (cells x))
theorem size_of_info{P:Program}{e:TypeId}{size bytes:Nat}(h:(P.info? e).map (fun i=>(i.zero.map fun z=>(z.cells.size,z.cells.all (·.oneCell')),i.size,i.bytes))=some (some (size,true),size,bytes)):(P.info? e).map (·.size)=some size:=by
 cases hi:P.info? e with
 |none=> rw[hi]at h;cases h
 |some i=>rw [hi]at h;simp at h;simp[h.2.1]
def Lay.struct{P:Program}{e:TypeId}{α:Type}(cells:α→ List Value)(size bytes:Nat)(len:∀x,(cells x).length=size)(pos:0< size)(bpos:0< bytes)(one:∀x,∀u∈ cells x,u.oneCell'=true)(info:(P.info? e).map (fun i=>(i.zero.map fun z=>(z.cells.size,z.cells.all (·.oneCell')),i.size,i.bytes))=some (some (size,true),size,bytes))(d:TypeDesc)(hu:P.underlying e=some d)(hd:d.isRow= true):Lay P e α where
 cells:=cells
 val x:= .agg (cells x).toArray
 size:=size
 bytes:=bytes
 len:=len
 pos:=pos
 bpos:=bpos
 one:=one
 info:=info
 load w b o x h:=run_loadAt_mid w b o e (cells x) d h hu hd (by rw[len];exact size_of_info info)
 store w b o x h:=by
  have:=run_storeAt_mid (P:=P) w b o e (cells x).toArray (by simpa[len]using h) (by simpa[len]using size_of_info info) (all_oneCell_toArray (one x));simpa using this
section
variable {P:Program} {e:TypeId} {α:Type} (L:Lay P e α)
abbrev LRow(w:World)(a:Option Addr)(xs:List α):Prop:= Row w a (xs.flatMap L.cells)
theorem Lay.length(xs:List α):(xs.flatMap L.cells).length=xs.length* L.size:=flatMap_len L.len xs
theorem Lay.ones(xs:List α):∀u∈ xs.flatMap L.cells,u.oneCell'=true:= by
 intro u hu;obtain⟨x,_,hx⟩:=List.mem_flatMap.1 hu;exact L.one x u hx
theorem Lay.at(xs:List α){k r:Nat}(hr:r< L.size):(xs.flatMap L.cells)[k*L.size+ r]? =(xs[k]?).bind fun x=>(L.cells x)[r]?:=flatMap_at L.len hr
theorem Lay.parts:∃i z,P.info? e=some i∧i.zero= some z∧i.size= L.size∧i.bytes= L.bytes∧z.cells.size= L.size∧z.cells.all (·.oneCell')=true:= by
 have h:=L.info;cases hi:P.info? e with
 |none=> rw[hi]at h;cases h
 |some i=>
  rw[hi]at h;cases hz:i.zero with
  |none=> simp[hz]at h
  |some z=>
   simp only[hz,Option.map_some,Option.some.injEq,Prod.mk.injEq]at h;exact⟨i,z,rfl,hz,h.2.1,h.2.2,h.1.1,h.1.2⟩
theorem Lay.elem{t:TypeId}(ht:P.underlying t=some (.slice e)):Elem P t e L.size L.bytes where
 under:=ht
 info:=let ⟨i,z,h1,h2,h3,h4,h5,_⟩:=L.parts;⟨i,z,h1,h2,h3,h4,h5⟩
 pos:=L.pos
 bpos:=L.bpos
variable {L}
theorem LRow.range{w:World}{a:Option Addr}{xs:List α}(h:LRow L w a xs){k:Nat}(hk:k< xs.length):
 ∃b o,a=some ⟨b,o,none⟩∧∀w',Below w.heap.size w w'→w'.rangeAt b (o+k* L.size) (L.cells xs[k]):=by
 have h0:0< (xs.flatMap L.cells).length:=by rw[L.length];exact Nat.mul_pos o_ L.pos
 obtain⟨b,o,rfl,hc⟩:=Row.at h h0;have hlt:=Row.lt (w:=w) (b:=b) (o:=o) (.inr ⟨b,o,rfl,hc⟩) (List.length_pos_iff.1 h0);refine⟨b,o,rfl,fun w' hb j v hv=> ?_⟩;have hj:j< L.size:=by have:=(List.getElem?_eq_some_iff.1 hv).1;rw[L.len]at this;exact this
 have h1:=L.at xs (k:=k) hj;rw[List.getElem?_eq_getElem hk,Option.bind_some,hv]at h1;obtain⟨h2,h3⟩:=List.getElem?_eq_some_iff.1 h1;rw[hb.cell (p:=⟨b,o+k* L.size+j,none⟩) hlt,Nat.add_assoc,hc _ h2,h3]
theorem LRow.below{w w':World}{a:Option Addr}{xs:List α}(h:LRow L w a xs)(hb:Below w.heap.size w w'):LRow L w' a xs:=Row.below h hb
theorem LRow.take{w:World}{a:Option Addr}{xs:List α}(h:LRow L w a xs)(k:Nat):LRow L w a (xs.take k):=by
 show Row _ _ _
 rw[←flatMap_take L.len];exact Row.take h _
theorem LRow.drop{w:World}{b o:Nat}{xs:List α}(h:LRow L w (some ⟨b,o,none⟩) xs)(k:Nat):LRow L w (some ⟨b,o+k* L.size,none⟩) (xs.drop k):=by
 show Row _ _ _
 rw[←flatMap_drop L.len];exact Row.drop h _
theorem wpList_load_lay{ops:Array Oper}{rest:List Oper}{op:Oper}{a:Act}{w:World}{Q:Exit→ Act→World→ Prop}(L:Lay P e α)(hgd:op.guard= none)(x:Operand)(ho:op.op= .load e x)(b o:Nat)(hx:a.eval x= .pointer (some ⟨b,o,none⟩))(y:α)(hc:w.rangeAt b o (L.cells y))(h:wpList P ops Q rest (a.put op.dst (L.val y)) w):wpList P ops Q (op::rest) a w:=
 wpList_plain hgd fun K hK=>by
  unfold Oper.wp execOp;simp only[ho,hx,Sem.run_bind,Sem.run_pure,Result.andThen_ok,L.load w b o y hc];exact hK _ _ h
theorem wpList_store_lay{ops:Array Oper}{rest:List Oper}{op:Oper}{a:Act}{w:World}{Q:Exit→ Act→World→ Prop}(L:Lay P e α)(hgd:op.guard= none)(x y:Operand)(ho:op.op= .store e x y)(b o:Nat)(z:α)(hx:a.eval x= .pointer (some ⟨b,o,none⟩))(hy:a.eval y=L.val z)(ht:w.there b o L.size)(h:wpList P ops Q rest (a.put op.dst undef) (w.setCells b o (L.cells z))):wpList P ops Q (op::rest) a w:=
 wpList_plain hgd fun K hK=>by
  unfold Oper.wp execOp;simp only[ho,hx,hy,Sem.run_bind,Sem.run_pure,Result.andThen_ok,L.store w b o z ht];exact hK _ _ h
theorem there_new(w:World)(cs:Array Value)(t:TypeId):(w.alloc (.cells cs t)).there w.heap.size 0 cs.size:=fun j hj=>by
 have h:=heap_alloc_new w (.cells cs t);refine⟨?_,?_⟩
 ·simp only[World.cell?,h,Option.isSome_none,Bool.false_eq_true,if_false];rw[Array.getElem?_eq_getElem o_];rfl
 ·simp only[World.frozen?,h];simp
theorem there_below{B:Nat}{w w':World}{b o n:Nat}(h:w.there b o n)(hb:Below B w w')(hB:b< B):w'.there b o n:=fun j hj=>by
 rw[hb.cell (p:=⟨b,o+j,none⟩) hB,hb.frozen (p:=⟨b,o+j,none⟩) hB];exact h j hj
def Mine(L:Lay P e α)(w:World)(B g o:Nat)(xs:List α):Prop:= B≤g∧ w.rangeAt g o (xs.flatMap L.cells)∧w.there g o (xs.length*L.size)
theorem Mine.row{w:World}{B g o:Nat}{xs:List α}(h:Mine L w B g o xs):LRow L w (some ⟨g,o,none⟩) xs:=
 .inr ⟨g,o,rfl,fun i hi=>h.2.1 i _ (List.getElem?_eq_getElem hi)⟩
theorem Mine.base{w:World}{B g o:Nat}{xs:List α}(h:Mine L w B g o xs):B≤ g:=h.1
theorem Below.setCells{B:Nat}{a:World}{g:Nat}(hg:B≤ g):∀(vs:List Value) (o:Nat) {w:World},Below B a w→Below B a (w.setCells g o vs)
 |[],_,_,h=>h
 |v:: vs,o,w,h=>by
  rw[World.setCells];exact Below.setCells hg vs (o+1) (h.setCell (p:=⟨g,o,none⟩) hg v)
theorem Mine.there{w:World}{B g o:Nat}{xs:List α}(h:Mine L w B g o xs){k:Nat}(hk:k< xs.length):w.there g (o+k* L.size) L.size:=fun j hj=>by
 have h1:k* L.size+j< xs.length*L.size:= by
  have:=Nat.mul_le_mul_right L.size (Nat.succ_le_of_lt hk);rw[Nat.succ_mul]at this;omega
 have:=h.2.2 (k*L.size+ j) h1;rw[Nat.add_assoc];exact this
theorem Mine.range{w:World}{B g o:Nat}{xs:List α}(h:Mine L w B g o xs){k:Nat}(hk:k< xs.length):w.rangeAt g (o+k* L.size) (L.cells xs[k]):=fun j v hv=>by
 have hj:j< L.size:=by have:=(List.getElem?_eq_some_iff.1 hv).1;rw[L.len]at this;exact this
 have h1:=L.at xs (k:=k) hj;rw[List.getElem?_eq_getElem hk,Option.bind_some,hv]at h1;have:=h.2.1 _ _ h1;rw[Nat.add_assoc];exact this
theorem Mine.set{w:World}{B g o:Nat}{xs:List α}(h:Mine L w B g o xs){k:Nat}(hk:k< xs.length)(x:α):Mine L (w.setCells g (o+k* L.size) (L.cells x)) B g o (xs.set k x):=by
 refine⟨h.1,fun j v hv=> ?_,by rw[List.length_set];exact World.there_setCells h.2.2 _ _ _⟩;have hj:j< (xs.set k x).length*L.size:= by have:=(List.getElem?_eq_some_iff.1 hv).1;rw[L.length]at this;exact this
 have hp:=L.pos;have hr:j% L.size<L.size:= Nat.mod_lt _ hp;have hjj:j/ L.size*L.size+ j%L.size= j:=by rw[Nat.mul_comm];exact Nat.div_add_mod j L.size
 have h1:=L.at (xs.set k x) (k:=j/ L.size) hr;rw[hjj,hv]at h1;by_cases hk2:j/ L.size=k
 ·rw[hk2,List.getElem?_set_self hk,Option.bind_some]at h1;have hlen:j% L.size<(L.cells x).length:=by rw[L.len];exact hr
  have h2:=World.cell?_setCells_in g (L.cells x) (o+k* L.size) w (fun i hi=>(h.there hk i (by rw[L.len]at hi;exact hi)).1) _ hlen;have h3:o+ j=o+ k*L.size+ j%L.size:= by rw[←hk2];omega
  rw[h3,h2];rw[List.getElem?_eq_getElem hlen]at h1;exact h1.symm
 ·rw[List.getElem?_set_ne (fun e=>hk2 e.symm)]at h1;have h4:=L.at xs (k:=j/ L.size) hr;rw[hjj,←h1]at h4;have h5:=h.2.1 j v h4;rw[World.cell?_setCells_out g (L.cells x) (o+k* L.size) w ⟨g,o+j,none⟩ (fun _ _=> ?_)]
  ·exact h5
  ·rw[L.len];rcases Nat.lt_or_gt_of_ne hk2 with h6|h6
   ·left;have:=Nat.mul_le_mul_right L.size (Nat.succ_le_of_lt h6);rw[Nat.succ_mul]at this;show o+j< o+k* L.size
    omega
   ·right;have:=Nat.mul_le_mul_right L.size (Nat.succ_le_of_lt h6);rw[Nat.succ_mul]at this;show o+k* L.size+L.size≤ o+j
    omega
theorem Mine.take{w:World}{B g o:Nat}{xs:List α}(h:Mine L w B g o xs)(k:Nat):Mine L w B g o (xs.take k):=by
 refine⟨h.1,fun j v hv=> ?_,fun j hj=>h.2.2 j (Nat.lt_of_lt_of_le hj (Nat.mul_le_mul_right _ (by simp;omega)))⟩;rw[←flatMap_take L.len,List.getElem?_take]at hv
 split at hv
 ·exact h.2.1 j v hv
 ·cases hv
theorem Mine.below{w w':World}{B g o B':Nat}{xs:List α}(h:Mine L w B g o xs)(hb:Below B' w w')(hg:g< B'):Mine L w' B g o xs:=
 ⟨h.1,fun j v hv=>(hb.cell (p:=⟨g,o+j,none⟩) hg).trans (h.2.1 j v hv),fun j hj=>by
  rw[hb.cell (p:=⟨g,o+j,none⟩) hg,hb.frozen (p:=⟨g,o+j,none⟩) hg];exact h.2.2 j hj⟩
theorem Mine.lt{w:World}{B g o:Nat}{xs:List α}(h:Mine L w B g o xs)(h0:xs≠ []):g< w.heap.size:=
 Row.lt h.row (by intro h1;have:=congrArg List.length h1;rw[L.length,List.length_nil,Nat.mul_eq_zero]at this;have hp:=L.pos;rcases this with h|h;exact h0 (List.eq_nil_of_length_eq_zero h);omega)
theorem Mine.of_own{w:World}{B:Nat}{g n c:Nat}{xs:List α}(h:w.ownsRow B e L.size (.slice (some ⟨g,0,none⟩) n c) n (xs.flatMap L.cells)):Mine L w B g 0 xs:=by
 obtain⟨hl,h⟩:=h;rcases h with⟨hv,_⟩|⟨g',cap,cur,hv,hB,hg,hnc,hm,hs,ht⟩
 ·cases hv
 ·simp only[Value.slice.injEq,Option.some.injEq,Addr.mk.injEq,and_true]at hv;obtain⟨rfl,_,rfl⟩:=hv;have hxs:xs.length* L.size=n* L.size:=by rw[←L.length];exact hl
  have h2:n* L.size≤cur.size:= by rw[hs];exact Nat.mul_le_mul_right _ hnc
  have hcell:∀j,w.cell? ⟨g,0+j,none⟩=cur[j]?:=fun j=>by simp[World.cell?,hg]
  refine⟨hB,fun j v hv=> ?_,fun j hj=> ?_⟩
  ·rw[hcell];rw[←ht,List.getElem?_take]at hv
   split at hv
   ·simpa using hv
   ·cases hv
  ·rw[hcell,Array.getElem?_eq_getElem o_];exact⟨rfl,by simp[World.frozen?,hg]⟩
theorem setCells_size(b:Nat):∀(vs:List Value) (o:Nat) (w:World),(w.setCells b o vs).heap.size=w.heap.size
 |[],_,_=>rfl
 |v:: vs,o,w=>by rw[World.setCells,setCells_size b vs];simp
theorem wpList_store_mine{ops:Array Oper}{rest:List Oper}{op:Oper}{a:Act}{w:World}{Q:Exit→ Act→World→ Prop}(L:Lay P e α)(hgd:op.guard= none)(x y:Operand)(ho:op.op= .store e x y){B g o:Nat}{xs:List α}(hm:Mine L w B g o xs)(k:Nat)(hk:k< xs.length)(z:α)(hx:a.eval x= .pointer (some ⟨g,o+k* L.size,none⟩))(hy:a.eval y=L.val z)(h:∀w',Mine L w' B g o (xs.set k z)→(∀B',B'≤g→ Below B' w w')→w'.heap.size= w.heap.size→wpList P ops Q rest (a.put op.dst undef) w'):wpList P ops Q (op::rest) a w:=
 wpList_store_lay L hgd x y ho g (o+k* L.size) z hx hy (hm.there hk) (h _ (hm.set hk z) (fun _ hB=>Below.setCells hB _ _ b_) (setCells_size _ _ _ _))
theorem own_head{w:World}{B:Nat}{t:TypeId}{size:Nat}{a:Option Addr}{n c:Nat}{xs:List Value}(h:w.ownsRow B t size (.slice a n c) n xs)(h0:xs≠ []):∃g,a=some ⟨g,0,none⟩∧B≤ g∧c≤ maxLen:=by
 rcases h.2 with⟨_,h1⟩|⟨g,cap,cur,hv,hB,hg,hnc,hm,hs,ht⟩
 ·exact absurd (List.eq_nil_of_length_eq_zero (by rw[h.1,h1,Nat.zero_mul])) h0
 ·simp only[Value.slice.injEq]at hv;obtain⟨rfl,_,rfl⟩:=hv;exact⟨g,rfl,hB,hm⟩
theorem Mine.mono{w:World}{B B' g o:Nat}{xs:List α}(h:Mine L w B g o xs)(hB:B'≤ B):Mine L w B' g o xs:=⟨Nat.le_trans hB h.1,h.2⟩
end
end Go.Proofs.YtoeofkcpclfnhaaGreat
