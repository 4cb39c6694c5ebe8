import Derived.Deep.MidRow
import Derived.WalkLawsBesides
import Derived.WalkSpells
import Derived.Test.YtfdmhpohfjbpfaaGreatSr01
set_option linter.unusedVariables false
set_option linter.unusedSimpArgs false
namespace Go.Proofs.YtfdmhpohfjbpfaaGreat
open Go.ChangeShapes Go.WideShapes Go.ChangeAt Go.RowKit
set_option maxRecDepth 100000
set_option maxHeartbeats 16000000
structure iW(P:Program)(e:TypeId)(α:Type) where
 cells:α→ List Value
 val:α→ Value
 size:Nat
 bytes:Nat
 len:∀x,(cells x).length=size
 pos:0< size
 oJ:0< bytes
 one:∀x,∀u∈ cells x,u.oneCell'=true
 info:(P.info? e).map (fun i=>(i.zero.map fun z=>(z.cells.size,z.cells.all (·.oneCell')),i.size,i.bytes))=some (some (size,true),size,bytes)
 load:∀(w:World) b o x,w.rangeAt b o (cells x)→(Instr.loadAt e (.pointer (some ⟨b,o,none⟩))).run P w= .ok (val x) w
 store:∀(w:World) b o x,w.there b o size→(Instr.storeAt e (.pointer (some ⟨b,o,none⟩)) (val x)).run P w= .ok () (w.setCells b o (cells x))
theorem vC{P:Program}{e:TypeId}{size bytes:Nat}(h:(P.info? e).map (fun i=>(i.zero.map fun z=>(z.cells.size,z.cells.all (·.oneCell')),i.size,i.bytes))=some (some (size,true),size,bytes)):(P.info? e).map (·.size)=some size:=by
 cases hi:P.info? e with
 |none=> rw[hi]at h;cases h
 |some i=>rw [hi]at h;simp at h;simp[h.2.1]
def iW.struct{P:Program}{e:TypeId}{α:Type}(cells:α→ List Value)(size bytes:Nat)(len:∀x,(cells x).length=size)(pos:0< size)(oJ:0< bytes)(one:∀x,∀u∈ cells x,u.oneCell'=true)(info:(P.info? e).map (fun i=>(i.zero.map fun z=>(z.cells.size,z.cells.all (·.oneCell')),i.size,i.bytes))=some (some (size,true),size,bytes))(d:TypeDesc)(hu:P.underlying e=some d)(hd:d.isRow= true):iW P e α where
 cells:=cells
 val x:= .agg (cells x).toArray
 size:=size
 bytes:=bytes
 len:=len
 pos:=pos
 oJ:=oJ
 one:=one
 info:=info
 load w b o x h:=run_loadAt_mid w b o e (cells x) d h hu hd (by rw[len];exact vC info)
 store w b o x h:=by
  have:=run_storeAt_mid (P:=P) w b o e (cells x).toArray (by simpa[len]using h) (by simpa[len]using vC info) (all_oneCell_toArray (one x));simpa using this
section
variable {P:Program} {e:TypeId} {α:Type} (L:iW P e α)
abbrev bF(w:World)(a:Option Addr)(xs:List α):Prop:= Row w a (xs.flatMap L.cells)
theorem iW.length(xs:List α):(xs.flatMap L.cells).length=xs.length* L.size:=kg L.len xs
theorem iW.rI(xs:List α):∀u∈ xs.flatMap L.cells,u.oneCell'=true:= by
 intro u hu;obtain⟨x,_,hx⟩:=List.mem_flatMap.1 hu;exact L.one x u hx
theorem iW.at(xs:List α){k r:Nat}(hr:r< L.size):(xs.flatMap L.cells)[k*L.size+ r]? =(xs[k]?).bind fun x=>(L.cells x)[r]?:=lh L.len hr
theorem iW.parts:∃i z,P.info? e=some i∧i.zero= some z∧i.size= L.size∧i.bytes= L.bytes∧z.cells.size= L.size∧z.cells.all (·.oneCell')=true:= by
 have h:=L.info;cases hi:P.info? e with
 |none=> rw[hi]at h;cases h
 |some i=>
  rw[hi]at h;cases hz:i.zero with
  |none=> simp[hz]at h
  |some z=>
   simp only[hz,Option.map_some,Option.some.injEq,Prod.mk.injEq]at h;exact⟨i,z,rfl,hz,h.2.1,h.2.2,h.1.1,h.1.2⟩
theorem iW.elem{t:TypeId}(ht:P.underlying t=some (.slice e)):sG P t e L.size L.bytes where
 under:=ht
 info:=let ⟨i,z,h1,h2,h3,h4,h5,_⟩:=L.parts;⟨i,z,h1,h2,h3,h4,h5⟩
 pos:=L.pos
 oJ:=L.oJ
variable {L}
theorem bF.range{w:World}{a:Option Addr}{xs:List α}(h:bF L w a xs){k:Nat}(hk:k< xs.length):
 ∃b o,a=some ⟨b,o,none⟩∧∀w',Below w.heap.size w w'→w'.rangeAt b (o+k* L.size) (L.cells xs[k]):=by
 have h0:0< (xs.flatMap L.cells).length:=by rw[L.length];exact Nat.mul_pos o_ L.pos
 obtain⟨b,o,rfl,hc⟩:=Row.at h h0;have hlt:=Row.lt (w:=w) (b:=b) (o:=o) (.inr ⟨b,o,rfl,hc⟩) (List.length_pos_iff.1 h0);refine⟨b,o,rfl,fun w' hb j v hv=> ?_⟩;have hj:j< L.size:=by have:=(List.getElem?_eq_some_iff.1 hv).1;rw[L.len]at this;exact this
 have h1:=L.at xs (k:=k) hj;rw[List.getElem?_eq_getElem hk,Option.bind_some,hv]at h1;obtain⟨h2,h3⟩:=List.getElem?_eq_some_iff.1 h1;rw[hb.cell (p:=⟨b,o+k* L.size+j,none⟩) hlt,Nat.add_assoc,hc _ h2,h3]
theorem bF.below{w w':World}{a:Option Addr}{xs:List α}(h:bF L w a xs)(hb:Below w.heap.size w w'):bF L w' a xs:=Row.below h hb
theorem bF.take{w:World}{a:Option Addr}{xs:List α}(h:bF L w a xs)(k:Nat):bF L w a (xs.take k):=by
 show Row _ _ _
 rw[←kF L.len];exact Row.take h _
theorem bF.drop{w:World}{b o:Nat}{xs:List α}(h:bF L w (some ⟨b,o,none⟩) xs)(k:Nat):bF L w (some ⟨b,o+k* L.size,none⟩) (xs.drop k):=by
 show Row _ _ _
 rw[←mz L.len];exact Row.drop h _
theorem bQ{ops:Array Oper}{rest:List Oper}{op:Oper}{a:Act}{w:World}{Q:Exit→ Act→World→ Prop}(L:iW P e α)(hgd:op.guard= none)(x:Operand)(ho:op.op= .load e x)(b o:Nat)(hx:a.eval x= .pointer (some ⟨b,o,none⟩))(y:α)(hc:w.rangeAt b o (L.cells y))(h:wpList P ops Q rest (a.put op.dst (L.val y)) w):wpList P ops Q (op::rest) a w:=
 wpList_plain hgd fun K hK=>by
  unfold Oper.wp execOp;simp only[ho,hx,Sem.run_bind,Sem.run_pure,Result.andThen_ok,L.load w b o y hc];exact hK _ _ h
theorem fY{ops:Array Oper}{rest:List Oper}{op:Oper}{a:Act}{w:World}{Q:Exit→ Act→World→ Prop}(L:iW P e α)(hgd:op.guard= none)(x y:Operand)(ho:op.op= .store e x y)(b o:Nat)(z:α)(hx:a.eval x= .pointer (some ⟨b,o,none⟩))(hy:a.eval y=L.val z)(ht:w.there b o L.size)(h:wpList P ops Q rest (a.put op.dst undef) (w.setCells b o (L.cells z))):wpList P ops Q (op::rest) a w:=
 wpList_plain hgd fun K hK=>by
  unfold Oper.wp execOp;simp only[ho,hx,hy,Sem.run_bind,Sem.run_pure,Result.andThen_ok,L.store w b o z ht];exact hK _ _ h
theorem lD{ops:Array Oper}{rest:List Oper}{op:Oper}{a:Act}{w:World}{Q:Exit→ Act→World→ Prop}(L:iW P e α){t:TypeId}(ht:P.underlying t=some (.slice e))(hgd:op.guard= none)(s:Operand)(ho:op.op= .call {callee:= .builtin .clear,args:= #[s],argTypes:= #[t]})(b o n c:Nat)(hs:a.eval s= .slice (some ⟨b,o,none⟩) n c)(Ae:w.there b o (n*L.size))(h:∀zs: List Value,zs.length=n* L.size→wpList P ops Q rest (a.put op.dst (.tuple #[])) (w.setCells b o zs)):wpList P ops Q (op::rest) a w:=
 wpList_plain hgd fun K hK=>by
  obtain⟨i,z,h1,h2,h3,_,h5,h6⟩:=L.parts;have hz:(zeroValue e).run P w= .ok z w:=by simp[zeroValue,typeInfo,h1,h2]
  by_cases hn:n= 0
  ·subst hn;have hrun:(Builtin.clear_ #[t] op.type #[.slice (some ⟨b,o,none⟩) 0 c]).run P w= .ok (.tuple #[]) w:=by
    simp[Builtin.clear_,run_underlying ht]
   unfold Oper.wp execOp;simp only[ho,resolve,invoke,builtin,Sem.run_bind,Sem.run_pure,Result.andThen_ok,List.map_toArray,List.map_cons,List.map_nil,hs,hrun];exact hK _ _ (h [] (by simp))
  ·have hst:=run_storeCells_cells (P:=P) b o (Builtin.zeroCells z.cells n).toList 0 w (fun j hj=>by
    have:=(Ae j (by simp[Builtin.zeroCells,h5]at hj;exact hj)).1;simpa using this) (fun j hj=>by
    have:=(Ae j (by simp[Builtin.zeroCells,h5]at hj;exact hj)).2;simpa using this) (fun v hv=>by
    simp only[Builtin.zeroCells,Array.toList_map,List.mem_map,Array.mem_toList_iff]at hv;obtain⟨i,_,rfl⟩:=hv;have hp:=L.pos;have hlt:i% z.cells.size<z.cells.size:= Nat.mod_lt _ o_;rw[getElem!_pos z.cells _ hlt]
    exact(Array.all_eq_true_iff_forall_mem.1 h6) _ (Array.getElem_mem hlt))
   rw[Nat.add_zero]at hst;have hrun:(Builtin.clear_ #[t] op.type #[.slice (some ⟨b,o,none⟩) n c]).run P w= .ok (.tuple #[]) (w.setCells b o (Builtin.zeroCells z.cells n).toList):=by
    cases n with
    |zero=> exact absurd rfl hn
    |succ n=>simp only[Builtin.clear_];simp[run_underlying ht,hz,hst]
   unfold Oper.wp execOp;simp only[ho,resolve,invoke,builtin,Sem.run_bind,Sem.run_pure,Result.andThen_ok,List.map_toArray,List.map_cons,List.map_nil,hs,hrun];exact hK _ _ (h _ (by simp[Builtin.zeroCells,h5]))
theorem Dj(w:World)(cs:Array Value)(t:TypeId):(w.alloc (.cells cs t)).there w.heap.size 0 cs.size:=fun j hj=>by
 have h:=heap_alloc_new w (.cells cs t);refine⟨?_,?_⟩
 ·simp only[World.cell?,h,Option.isSome_none,Bool.false_eq_true,if_false];rw[Array.getElem?_eq_getElem o_];rfl
 ·simp only[World.frozen?,h];simp
theorem sx{w:World}{b o:Nat}(x:α)(h:w.there b o L.size):(w.setCells b o (L.cells x)).rangeAt b o (L.cells x):=World.rangeAt_setCells_same w b o _ (by rw[L.len];exact h)
theorem sX{B:Nat}{w w':World}{b o:Nat}{cs:List Value}(h:w.rangeAt b o cs)(hb:Below B w w')(hB:b< B):w'.rangeAt b o cs:=fun j v hv=>(hb.cell (p:=⟨b,o+j,none⟩) hB).trans (h j v hv)
theorem GW{B:Nat}{w w':World}{b o n:Nat}(h:w.there b o n)(hb:Below B w w')(hB:b< B):w'.there b o n:=fun j hj=>by
 rw[hb.cell (p:=⟨b,o+j,none⟩) hB,hb.frozen (p:=⟨b,o+j,none⟩) hB];exact h j hj
def dM(L:iW P e α)(w:World)(B g o:Nat)(xs:List α):Prop:= B≤g∧ w.rangeAt g o (xs.flatMap L.cells)∧w.there g o (xs.length*L.size)
theorem dM.row{w:World}{B g o:Nat}{xs:List α}(h:dM L w B g o xs):bF L w (some ⟨g,o,none⟩) xs:=
 .inr ⟨g,o,rfl,fun i hi=>h.2.1 i _ (List.getElem?_eq_getElem hi)⟩
theorem dM.base{w:World}{B g o:Nat}{xs:List α}(h:dM L w B g o xs):B≤ g:=h.1
theorem Below.setCells{B:Nat}{a:World}{g:Nat}(hg:B≤ g):∀(vs:List Value) (o:Nat) {w:World},Below B a w→Below B a (w.setCells g o vs)
 |[],_,_,h=>h
 |v:: vs,o,w,h=>by
  rw[World.setCells];exact Below.setCells hg vs (o+1) (h.setCell (p:=⟨g,o,none⟩) hg v)
theorem dM.there{w:World}{B g o:Nat}{xs:List α}(h:dM L w B g o xs){k:Nat}(hk:k< xs.length):w.there g (o+k* L.size) L.size:=fun j hj=>by
 have h1:k* L.size+j< xs.length*L.size:= by
  have:=Nat.mul_le_mul_right L.size (Nat.succ_le_of_lt hk);rw[Nat.succ_mul]at this;omega
 have:=h.2.2 (k*L.size+ j) h1;rw[Nat.add_assoc];exact this
theorem dM.range{w:World}{B g o:Nat}{xs:List α}(h:dM L w B g o xs){k:Nat}(hk:k< xs.length):w.rangeAt g (o+k* L.size) (L.cells xs[k]):=fun j v hv=>by
 have hj:j< L.size:=by have:=(List.getElem?_eq_some_iff.1 hv).1;rw[L.len]at this;exact this
 have h1:=L.at xs (k:=k) hj;rw[List.getElem?_eq_getElem hk,Option.bind_some,hv]at h1;have:=h.2.1 _ _ h1;rw[Nat.add_assoc];exact this
theorem dM.set{w:World}{B g o:Nat}{xs:List α}(h:dM L w B g o xs){k:Nat}(hk:k< xs.length)(x:α):dM L (w.setCells g (o+k* L.size) (L.cells x)) B g o (xs.set k x):=by
 refine⟨h.1,fun j v hv=> ?_,by rw[List.length_set];exact World.there_setCells h.2.2 _ _ _⟩;have hj:j< (xs.set k x).length*L.size:= by have:=(List.getElem?_eq_some_iff.1 hv).1;rw[L.length]at this;exact this
 have hp:=L.pos;have hr:j% L.size<L.size:= Nat.mod_lt _ hp;have Rh:j/ L.size*L.size+ j%L.size= j:=by rw[Nat.mul_comm];exact Nat.div_add_mod j L.size
 have h1:=L.at (xs.set k x) (k:=j/ L.size) hr;rw[Rh,hv]at h1;by_cases hk2:j/ L.size=k
 ·rw[hk2,List.getElem?_set_self hk,Option.bind_some]at h1;have hlen:j% L.size<(L.cells x).length:=by rw[L.len];exact hr
  have h2:=World.cell?_setCells_in g (L.cells x) (o+k* L.size) w (fun i hi=>(h.there hk i (by rw[L.len]at hi;exact hi)).1) _ hlen;have h3:o+ j=o+ k*L.size+ j%L.size:= by rw[←hk2];omega
  rw[h3,h2];rw[List.getElem?_eq_getElem hlen]at h1;exact h1.symm
 ·rw[List.getElem?_set_ne (fun e=>hk2 e.symm)]at h1;have h4:=L.at xs (k:=j/ L.size) hr;rw[Rh,←h1]at h4;have h5:=h.2.1 j v h4;rw[World.cell?_setCells_out g (L.cells x) (o+k* L.size) w ⟨g,o+j,none⟩ (fun _ _=> ?_)]
  ·exact h5
  ·rw[L.len];rcases Nat.lt_or_gt_of_ne hk2 with h6|h6
   ·left;have:=Nat.mul_le_mul_right L.size (Nat.succ_le_of_lt h6);rw[Nat.succ_mul]at this;show o+j< o+k* L.size
    omega
   ·right;have:=Nat.mul_le_mul_right L.size (Nat.succ_le_of_lt h6);rw[Nat.succ_mul]at this;show o+k* L.size+L.size≤ o+j
    omega
theorem dM.take{w:World}{B g o:Nat}{xs:List α}(h:dM L w B g o xs)(k:Nat):dM L w B g o (xs.take k):=by
 refine⟨h.1,fun j v hv=> ?_,fun j hj=>h.2.2 j (Nat.lt_of_lt_of_le hj (Nat.mul_le_mul_right _ (by simp;omega)))⟩;rw[←kF L.len,List.getElem?_take]at hv
 split at hv
 ·exact h.2.1 j v hv
 ·cases hv
theorem dM.below{w w':World}{B g o B':Nat}{xs:List α}(h:dM L w B g o xs)(hb:Below B' w w')(hg:g< B'):dM L w' B g o xs:=
 ⟨h.1,fun j v hv=>(hb.cell (p:=⟨g,o+j,none⟩) hg).trans (h.2.1 j v hv),fun j hj=>by
  rw[hb.cell (p:=⟨g,o+j,none⟩) hg,hb.frozen (p:=⟨g,o+j,none⟩) hg];exact h.2.2 j hj⟩
theorem dM.lt{w:World}{B g o:Nat}{xs:List α}(h:dM L w B g o xs)(h0:xs≠ []):g< w.heap.size:=
 Row.lt h.row (by intro h1;have:=congrArg List.length h1;rw[L.length,List.length_nil,Nat.mul_eq_zero]at this;have hp:=L.pos;rcases this with h|h;exact h0 (List.eq_nil_of_length_eq_zero h);omega)
theorem dM.pV{w:World}{B:Nat}{g n c:Nat}{xs:List α}(h:w.ownsRow B e L.size (.slice (some ⟨g,0,none⟩) n c) n (xs.flatMap L.cells)):dM L w B g 0 xs:=by
 obtain⟨hl,h⟩:=h;rcases h with⟨hv,_⟩|⟨g',cap,cur,hv,hB,hg,hnc,hm,hs,ht⟩
 ·cases hv
 ·simp only[Value.slice.injEq,Option.some.injEq,Addr.mk.injEq,and_true]at hv;obtain⟨rfl,_,rfl⟩:=hv;have hxs:xs.length* L.size=n* L.size:=by rw[←L.length];exact hl
  have h2:n* L.size≤cur.size:= by rw[hs];exact Nat.mul_le_mul_right _ hnc
  have hcell:∀j,w.cell? ⟨g,0+j,none⟩=cur[j]?:=fun j=>by simp[World.cell?,hg]
  refine⟨hB,fun j v hv=> ?_,fun j hj=> ?_⟩
  ·rw[hcell];rw[←ht,List.getElem?_take]at hv
   split at hv
   ·simpa using hv
   ·cases hv
  ·rw[hcell,Array.getElem?_eq_getElem o_];exact⟨rfl,by simp[World.frozen?,hg]⟩
theorem dW(b:Nat):∀(vs:List Value) (o:Nat) (w:World),(w.setCells b o vs).heap.size=w.heap.size
 |[],_,_=>rfl
 |v:: vs,o,w=>by rw[World.setCells,dW b vs];simp
theorem aI{ops:Array Oper}{rest:List Oper}{op:Oper}{a:Act}{w:World}{cs:Array Value}{t:TypeId}{Q:Exit→ Act→World→ Prop}(L:iW P e α)(hgd:op.guard= none)(x y:Operand)(ho:op.op= .store e x y)(z:α)(hx:a.eval x= .pointer (some ⟨w.heap.size,0,none⟩))(hy:a.eval y=L.val z)(ht:cs.size= L.size)(h:∀w',w'.rangeAt w.heap.size 0 (L.cells z)→w'.there w.heap.size 0 L.size→Below w.heap.size w w'→w'.heap.size= w.heap.size+1→ wpList P ops Q rest (a.put op.dst undef) w'):wpList P ops Q (op::rest) a (w.alloc (.cells cs t)):=by
 have Ae:(w.alloc (.cells cs t)).there w.heap.size 0 L.size:=by rw[←ht];exact Dj w cs t
 refine fY L hgd x y ho w.heap.size 0 z hx hy Ae (h _ (sx z Ae) (World.there_setCells Ae _ _ _) (Below.setCells n_ _ _ (b_.alloc n_ _)) (by rw[dW];simp))
theorem nN{ops:Array Oper}{rest:List Oper}{op:Oper}{a:Act}{w:World}{Q:Exit→ Act→World→ Prop}(L:iW P e α)(hgd:op.guard= none)(x y:Operand)(ho:op.op= .store e x y){B g o:Nat}{xs:List α}(hm:dM L w B g o xs)(k:Nat)(hk:k< xs.length)(z:α)(hx:a.eval x= .pointer (some ⟨g,o+k* L.size,none⟩))(hy:a.eval y=L.val z)(h:∀w',dM L w' B g o (xs.set k z)→(∀B',B'≤g→ Below B' w w')→w'.heap.size= w.heap.size→wpList P ops Q rest (a.put op.dst undef) w'):wpList P ops Q (op::rest) a w:=
 fY L hgd x y ho g (o+k* L.size) z hx hy (hm.there hk) (h _ (hm.set hk z) (fun _ hB=>Below.setCells hB _ _ b_) (dW _ _ _ _))
theorem vJ{ops:Array Oper}{rest:List Oper}{op:Oper}{a:Act}{w:World}{Q:Exit→ Act→World→ Prop}(L:iW P e α){t:TypeId}(ht:P.underlying t=some (.slice e))(hgd:op.guard= none)(s:Operand)(ho:op.op= .call {callee:= .builtin .clear,args:= #[s],argTypes:= #[t]}){B g o:Nat}{xs:List α}(hm:dM L w B g o xs)(k:Nat)(hk:k≤ xs.length)(n c:Nat)(hn:n+ k=xs.length)(hs:a.eval s= .slice (some ⟨g,o+k* L.size,none⟩) n c)(h:∀w',dM L w' B g o (xs.take k)→(∀B',B'≤g→ Below B' w w')→w'.heap.size= w.heap.size→wpList P ops Q rest (a.put op.dst (.tuple #[])) w'):wpList P ops Q (op::rest) a w:=by
 have Ae:w.there g (o+k* L.size) (n*L.size):=fun j hj=>by
  have:=hm.2.2 (k*L.size+ j) (by rw[←hn,Nat.add_mul];omega);rw[Nat.add_assoc];exact this
 refine lD L ht hgd s ho g (o+k* L.size) n c hs Ae fun zs _=>h _ ?_ (fun _ hB=>Below.setCells hB _ _ b_) (dW _ _ _ _)
 have h1:=hm.take k;refine⟨h1.1,World.rangeAt_setCells_apart h1.2.1 _ _ _ (.inr (.inl ?_)),World.there_setCells h1.2.2 _ _ _⟩;rw[L.length,List.length_take,Nat.min_eq_left hk];omega
theorem iM{w:World}{B:Nat}{t:TypeId}{size:Nat}{a:Option Addr}{n c:Nat}{xs:List Value}(h:w.ownsRow B t size (.slice a n c) n xs)(h0:xs≠ []):∃g,a=some ⟨g,0,none⟩∧B≤ g∧c≤ maxLen:=by
 rcases h.2 with⟨_,h1⟩|⟨g,cap,cur,hv,hB,hg,hnc,hm,hs,ht⟩
 ·exact absurd (List.eq_nil_of_length_eq_zero (by rw[h.1,h1,Nat.zero_mul])) h0
 ·simp only[Value.slice.injEq]at hv;obtain⟨rfl,_,rfl⟩:=hv;exact⟨g,rfl,hB,hm⟩
theorem dM.mono{w:World}{B B' g o:Nat}{xs:List α}(h:dM L w B g o xs)(hB:B'≤ B):dM L w B' g o xs:=⟨Nat.le_trans hB h.1,h.2⟩
end
abbrev bS.agg(a:bS):Value:= .agg (mh a.e a.aK a.aq a.bW a.size)
abbrev bS.cells(t:bS):List Value:=(mh t.e t.aK t.aq t.bW t.size)
def bA:iW Tryz.prog 40 bS:=iW.struct bS.cells 5 40 (fun _=>rfl) d_ d_ (fun x u hu=>by simp at hu;rcases hu with h|h| h|h| h<;>subst h<;>rfl) k_ _ Tryz.underlying40 rfl
theorem lL{w:World}{b o:Nat}{t:bS}(h:w.rangeAt b o t.cells):w.cell? ⟨b,o,none⟩=some (.int .i64 t.e)∧w.cell? ⟨b,o+1,none⟩=some (.int .i64 t.aK)∧w.cell? ⟨b,o+2,none⟩=some (.int .i64 t.aq)∧w.cell? ⟨b,o+3,none⟩=some (.int .i64 t.bW)∧w.cell? ⟨b,o+4,none⟩=some (.int .i64 t.size):=
 ⟨h 0 _ rfl,h 1 _ rfl,h 2 _ rfl,h 3 _ rfl,h 4 _ rfl⟩
structure aV where
 id:Int
 aC:Int
 ak:Int
 aM:Int
 number:Int
 size:Int
 bN:Int
 deriving DecidableEq
abbrev aV.cells(t:aV):List Value:=(xd t.id t.aC t.ak t.aM t.number t.size t.bN)
abbrev aV.agg(t:aV):Value:= .agg (xd t.id t.aC t.ak t.aM t.number t.size t.bN)
def aJ:iW Tryz.prog 59 aV:=iW.struct aV.cells 7 56 (fun _=>rfl) d_ d_ (fun x u hu=>by simp at hu;rcases hu with h|h| h|h| h|h| h<;>subst h<;>rfl) k_ _ Tryz.underlying59 rfl
theorem oL{w:World}{b o:Nat}{t:aV}(h:w.rangeAt b o t.cells):w.cell? ⟨b,o,none⟩=some (.int .i64 t.id)∧w.cell? ⟨b,o+1,none⟩=some (.int .i64 t.aC)∧w.cell? ⟨b,o+2,none⟩=some (.int .i64 t.ak)∧w.cell? ⟨b,o+3,none⟩=some (.int .i64 t.aM)∧w.cell? ⟨b,o+4,none⟩=some (.int .i64 t.number)∧w.cell? ⟨b,o+5,none⟩=some (.int .i64 t.size)∧w.cell? ⟨b,o+6,none⟩=some (.int .i64 t.bN):=
 ⟨h 0 _ rfl,h 1 _ rfl,h 2 _ rfl,h 3 _ rfl,h 4 _ rfl,h 5 _ rfl,h 6 _ rfl⟩
theorem zE{w:World}{a:Option Addr}{ts:List aV}(h:bF aJ w a ts){k:Nat}(hk:k< ts.length):
 ∃b o,a=some ⟨b,o,none⟩∧∀w',Below w.heap.size w w'→w'.cell? ⟨b,o+k* 7,none⟩=some (.int .i64 ts[k].id)∧w'.cell? ⟨b,o+k* 7+1,none⟩=some (.int .i64 ts[k].aC)∧w'.cell? ⟨b,o+k* 7+2,none⟩=some (.int .i64 ts[k].ak)∧w'.cell? ⟨b,o+k* 7+3,none⟩=some (.int .i64 ts[k].aM)∧w'.cell? ⟨b,o+k* 7+4,none⟩=some (.int .i64 ts[k].number)∧w'.cell? ⟨b,o+k* 7+5,none⟩=some (.int .i64 ts[k].size)∧w'.cell? ⟨b,o+k* 7+6,none⟩=some (.int .i64 ts[k].bN):=by
 obtain⟨b,o,rfl,hc⟩:=bF.range h hk;exact⟨b,o,rfl,fun w' hb=>oL (hc w' hb)⟩
theorem Lc(t u:aV)(w:World):(Op.equalIn 10000 59 t.agg u.agg).run Tryz.prog w= .ok (decide (t=u)) w:=by
 obtain⟨t0,t1,t2,t3,t4,t5,t6⟩:=t;obtain⟨u0,u1,u2,u3,u4,u5,u6⟩:=u;have hp:Tryz.prog.stoodInHeld 59=false:= k_;have hint:=fun (d:Nat) (a b:Int) (w:World)=>run_equalIn_int (P:=Tryz.prog) w d 3 .i64 .i64 a b Tryz.underlying3
 simp[go_sem,hp,hint];by_cases e0:t0= u0<;>by_cases e1:t1= u1<;>by_cases e2:t2= u2<;>by_cases e3:t3= u3<;>by_cases e4:t4= u4<;>by_cases e5:t5= u5<;>by_cases e6:t6= u6<;>simp [e0,e1,e2,e3,e4,e5,e6]
theorem Je(t u:aV)(w:World):(binOp .neq 59 t.agg u.agg).run Tryz.prog w= .ok (.bool (!decide (t=u))) w:=by
 rw[run_neq_struct,Lc];rfl
theorem OZ{H:Type}{enc:TypeId× Value→H}{w:World}{cs:List Value}(h:Rd enc Tryz.prog w 59 cs):∃x: aV,cs=x.cells:= by
 obtain⟨hl,hf⟩:=h.struct Tryz.underlying59;have hn:Tryz.prog.cellsOf 59=7:= k_;have jm:Tryz.prog.cellsOf 3=1:= k_;rw[hn]at hl
 match cs,hl with
 |[v0,v1,v2,v3,v4,v5,v6],_=>
  have f0:Rd enc Tryz.prog w 3 ((([v0,v1,v2,v3,v4,v5,v6]:List Value).drop 0).take (Tryz.prog.cellsOf 3)):=hf 0 _ rfl;rw[jm]at f0;replace f0:Rd enc Tryz.prog w 3 [v0]:=f0;obtain⟨x0,e0,-⟩:=f0.int Tryz.underlying3;have f1:Rd enc Tryz.prog w 3 ((([v0,v1,v2,v3,v4,v5,v6]:List Value).drop 1).take (Tryz.prog.cellsOf 3)):=hf 1 _ rfl;rw[jm]at f1;replace f1:Rd enc Tryz.prog w 3 [v1]:=f1;obtain⟨x1,e1,-⟩:=f1.int Tryz.underlying3;have f2:Rd enc Tryz.prog w 3 ((([v0,v1,v2,v3,v4,v5,v6]:List Value).drop 2).take (Tryz.prog.cellsOf 3)):=hf 2 _ rfl;rw[jm]at f2;replace f2:Rd enc Tryz.prog w 3 [v2]:=f2;obtain⟨x2,e2,-⟩:=f2.int Tryz.underlying3;have f3:Rd enc Tryz.prog w 3 ((([v0,v1,v2,v3,v4,v5,v6]:List Value).drop 3).take (Tryz.prog.cellsOf 3)):=hf 3 _ rfl;rw[jm]at f3;replace f3:Rd enc Tryz.prog w 3 [v3]:=f3;obtain⟨x3,e3,-⟩:=f3.int Tryz.underlying3;have f4:Rd enc Tryz.prog w 3 ((([v0,v1,v2,v3,v4,v5,v6]:List Value).drop 4).take (Tryz.prog.cellsOf 3)):=hf 4 _ rfl;rw[jm]at f4;replace f4:Rd enc Tryz.prog w 3 [v4]:=f4;obtain⟨x4,e4,-⟩:=f4.int Tryz.underlying3;have f5:Rd enc Tryz.prog w 3 ((([v0,v1,v2,v3,v4,v5,v6]:List Value).drop 5).take (Tryz.prog.cellsOf 3)):=hf 5 _ rfl;rw[jm]at f5;replace f5:Rd enc Tryz.prog w 3 [v5]:=f5;obtain⟨x5,e5,-⟩:=f5.int Tryz.underlying3;have f6:Rd enc Tryz.prog w 3 ((([v0,v1,v2,v3,v4,v5,v6]:List Value).drop 6).take (Tryz.prog.cellsOf 3)):=hf 6 _ rfl;rw[jm]at f6;replace f6:Rd enc Tryz.prog w 3 [v6]:=f6;obtain⟨x6,e6,-⟩:=f6.int Tryz.underlying3;simp only[List.cons.injEq,and_true]at e0 e1 e2 e3 e4 e5 e6;subst e0;subst e1;subst e2;subst e3;subst e4;subst e5;subst e6;exact⟨⟨x0,x1,x2,x3,x4,x5,x6⟩,rfl⟩
theorem LZ{H:Type}{enc:TypeId× Value→H}{w:World}{a:Option Addr}{len cap:Nat}(h:Rd enc Tryz.prog w 23 [.slice a len cap]):
 ∃ts: List aV,ts.length=len∧ len≤cap∧ cap≤maxLen∧ (a=none→ cap=0)∧bF aJ w a ts:=by
 obtain⟨xs,h1,h2,h3,_,h5,_,hr⟩:=Rd.rows (α:=aV) (cells:=aV.cells) (size:=7) (good:=fun _=>True) (fun _=>rfl) d_ Tryz.underlying23 k_ (fun cs hcs=>by obtain⟨x,hx⟩:=OZ hcs;exact⟨x,hx,trivial⟩) h;exact⟨xs,h1,h2,h3,h5,hr⟩
structure aD where
 aA:Int
 number:Int
 answer:bS
 deriving DecidableEq
abbrev aD.cells(t:aD):List Value:=(xd t.aA t.number t.answer.e t.answer.aK t.answer.aq t.answer.bW t.answer.size)
abbrev aD.agg(t:aD):Value:= .agg (xd t.aA t.number t.answer.e t.answer.aK t.answer.aq t.answer.bW t.answer.size)
def aB:iW Tryz.prog 92 aD:=iW.struct aD.cells 7 56 (fun _=>rfl) d_ d_ (fun x u hu=>by simp at hu;rcases hu with h|h| h|h| h|h| h<;>subst h<;>rfl) k_ _ Tryz.underlying92 rfl
theorem kA{w:World}{b o:Nat}{t:aD}(h:w.rangeAt b o t.cells):w.cell? ⟨b,o,none⟩=some (.int .i64 t.aA)∧w.cell? ⟨b,o+1,none⟩=some (.int .i64 t.number)∧w.cell? ⟨b,o+2,none⟩=some (.int .i64 t.answer.e)∧w.cell? ⟨b,o+3,none⟩=some (.int .i64 t.answer.aK)∧w.cell? ⟨b,o+4,none⟩=some (.int .i64 t.answer.aq)∧w.cell? ⟨b,o+5,none⟩=some (.int .i64 t.answer.bW)∧w.cell? ⟨b,o+6,none⟩=some (.int .i64 t.answer.size):=
 ⟨h 0 _ rfl,h 1 _ rfl,h 2 _ rfl,h 3 _ rfl,h 4 _ rfl,h 5 _ rfl,h 6 _ rfl⟩
theorem ql{w:World}{a:Option Addr}{ts:List aD}(h:bF aB w a ts){k:Nat}(hk:k< ts.length):
 ∃b o,a=some ⟨b,o,none⟩∧∀w',Below w.heap.size w w'→w'.cell? ⟨b,o+k* 7,none⟩=some (.int .i64 ts[k].aA)∧w'.cell? ⟨b,o+k* 7+1,none⟩=some (.int .i64 ts[k].number)∧w'.cell? ⟨b,o+k* 7+2,none⟩=some (.int .i64 ts[k].answer.e)∧w'.cell? ⟨b,o+k* 7+3,none⟩=some (.int .i64 ts[k].answer.aK)∧w'.cell? ⟨b,o+k* 7+4,none⟩=some (.int .i64 ts[k].answer.aq)∧w'.cell? ⟨b,o+k* 7+5,none⟩=some (.int .i64 ts[k].answer.bW)∧w'.cell? ⟨b,o+k* 7+6,none⟩=some (.int .i64 ts[k].answer.size):=by
 obtain⟨b,o,rfl,hc⟩:=bF.range h hk;exact⟨b,o,rfl,fun w' hb=>kA (hc w' hb)⟩
theorem Ld(t u:aD)(w:World):(Op.equalIn 10000 92 t.agg u.agg).run Tryz.prog w= .ok (decide (t=u)) w:=by
 obtain⟨t0,t1,⟨t2e,Vu,RZ,R5,Vv⟩⟩:=t;obtain⟨u0,u1,⟨u2e,VI,Sh,Si,VJ⟩⟩:=u;have hp:Tryz.prog.stoodInHeld 92=false:= k_;have IP:=fun (d:Nat) (a b:Int) (w:World)=>run_equalIn_int (P:=Tryz.prog) w d 38 .i64 .i64 a b Tryz.underlying38
 have hint:=fun (d:Nat) (a b:Int) (w:World)=>run_equalIn_int (P:=Tryz.prog) w d 3 .i64 .i64 a b Tryz.underlying3
 have Oz:Tryz.prog.stoodInHeld 40=false:= k_;simp[go_sem,hp,IP,hint,Oz];by_cases e0:t0= u0<;>by_cases e1:t1= u1<;>by_cases e2:t2e= u2e<;>by_cases e3:Vu= VI<;>by_cases e4:RZ= Sh<;>by_cases e5:R5= Si<;>by_cases e6:Vv= VJ<;>simp [e0,e1,e2,e3,e4,e5,e6]
theorem Jf(t u:aD)(w:World):(binOp .neq 92 t.agg u.agg).run Tryz.prog w= .ok (.bool (!decide (t=u))) w:=by
 rw[run_neq_struct,Ld];rfl
theorem Gq{H:Type}{enc:TypeId× Value→H}{w:World}{cs:List Value}(h:Rd enc Tryz.prog w 40 cs):∃x: bS,cs=x.cells:= by
 obtain⟨hl,hf⟩:=h.struct Tryz.underlying40;have hn:Tryz.prog.cellsOf 40=5:= k_;have jm:Tryz.prog.cellsOf 3=1:= k_;have SC:Tryz.prog.cellsOf 38=1:= k_;rw[hn]at hl
 match cs,hl with
 |[v0,v1,v2,v3,v4],_=>
  have f0:Rd enc Tryz.prog w 38 ((([v0,v1,v2,v3,v4]:List Value).drop 0).take (Tryz.prog.cellsOf 38)):=hf 0 _ rfl;rw[SC]at f0;replace f0:Rd enc Tryz.prog w 38 [v0]:=f0;obtain⟨x0,e0,-⟩:=f0.int Tryz.underlying38;have f1:Rd enc Tryz.prog w 3 ((([v0,v1,v2,v3,v4]:List Value).drop 1).take (Tryz.prog.cellsOf 3)):=hf 1 _ rfl;rw[jm]at f1;replace f1:Rd enc Tryz.prog w 3 [v1]:=f1;obtain⟨x1,e1,-⟩:=f1.int Tryz.underlying3;have f2:Rd enc Tryz.prog w 3 ((([v0,v1,v2,v3,v4]:List Value).drop 2).take (Tryz.prog.cellsOf 3)):=hf 2 _ rfl;rw[jm]at f2;replace f2:Rd enc Tryz.prog w 3 [v2]:=f2;obtain⟨x2,e2,-⟩:=f2.int Tryz.underlying3;have f3:Rd enc Tryz.prog w 3 ((([v0,v1,v2,v3,v4]:List Value).drop 3).take (Tryz.prog.cellsOf 3)):=hf 3 _ rfl;rw[jm]at f3;replace f3:Rd enc Tryz.prog w 3 [v3]:=f3;obtain⟨x3,e3,-⟩:=f3.int Tryz.underlying3;have f4:Rd enc Tryz.prog w 3 ((([v0,v1,v2,v3,v4]:List Value).drop 4).take (Tryz.prog.cellsOf 3)):=hf 4 _ rfl;rw[jm]at f4;replace f4:Rd enc Tryz.prog w 3 [v4]:=f4;obtain⟨x4,e4,-⟩:=f4.int Tryz.underlying3;simp only[List.cons.injEq,and_true]at e0 e1 e2 e3 e4;subst e0;subst e1;subst e2;subst e3;subst e4;exact⟨⟨x0,x1,x2,x3,x4⟩,rfl⟩
theorem O3{H:Type}{enc:TypeId× Value→H}{w:World}{cs:List Value}(h:Rd enc Tryz.prog w 92 cs):∃x: aD,cs=x.cells:= by
 obtain⟨hl,hf⟩:=h.struct Tryz.underlying92;have hn:Tryz.prog.cellsOf 92=7:= k_;have jm:Tryz.prog.cellsOf 3=1:= k_;have Bf:Tryz.prog.cellsOf 40=5:= k_;rw[hn]at hl
 match cs,hl with
 |[v0,v1,v2,v3,v4,v5,v6],_=>
  have f0:Rd enc Tryz.prog w 3 ((([v0,v1,v2,v3,v4,v5,v6]:List Value).drop 0).take (Tryz.prog.cellsOf 3)):=hf 0 _ rfl;rw[jm]at f0;replace f0:Rd enc Tryz.prog w 3 [v0]:=f0;obtain⟨x0,e0,-⟩:=f0.int Tryz.underlying3;have f1:Rd enc Tryz.prog w 3 ((([v0,v1,v2,v3,v4,v5,v6]:List Value).drop 1).take (Tryz.prog.cellsOf 3)):=hf 1 _ rfl;rw[jm]at f1;replace f1:Rd enc Tryz.prog w 3 [v1]:=f1;obtain⟨x1,e1,-⟩:=f1.int Tryz.underlying3;have f2:Rd enc Tryz.prog w 40 ((([v0,v1,v2,v3,v4,v5,v6]:List Value).drop 2).take (Tryz.prog.cellsOf 40)):=hf 2 _ rfl;rw[Bf]at f2;replace f2:Rd enc Tryz.prog w 40 [v2,v3,v4,v5,v6]:=f2;obtain⟨x2,e2⟩:=Gq f2;simp only[List.cons.injEq,and_true]at e0 e1 e2;subst e0;subst e1;obtain⟨rfl,rfl,rfl,rfl,rfl⟩:=e2;exact⟨⟨x0,x1,x2⟩,rfl⟩
theorem L1{H:Type}{enc:TypeId× Value→H}{w:World}{a:Option Addr}{len cap:Nat}(h:Rd enc Tryz.prog w 24 [.slice a len cap]):
 ∃ts: List aD,ts.length=len∧ len≤cap∧ cap≤maxLen∧ (a=none→ cap=0)∧bF aB w a ts:=by
 obtain⟨xs,h1,h2,h3,_,h5,_,hr⟩:=Rd.rows (α:=aD) (cells:=aD.cells) (size:=7) (good:=fun _=>True) (fun _=>rfl) d_ Tryz.underlying24 k_ (fun cs hcs=>by obtain⟨x,hx⟩:=O3 hcs;exact⟨x,hx,trivial⟩) h;exact⟨xs,h1,h2,h3,h5,hr⟩
structure bR where
 ak:Int
 aM:Int
 number:Int
 answer:bS
 deriving DecidableEq
abbrev bR.cells(t:bR):List Value:=(GY t.ak t.aM t.number t.answer.e t.answer.aK t.answer.aq t.answer.bW t.answer.size)
abbrev bR.agg(t:bR):Value:= .agg (GY t.ak t.aM t.number t.answer.e t.answer.aK t.answer.aq t.answer.bW t.answer.size)
def ay:iW Tryz.prog 66 bR:=iW.struct bR.cells 8 64 (fun _=>rfl) d_ d_ (fun x u hu=>by simp at hu;rcases hu with h|h| h|h| h|h| h|h<;>subst h<;>rfl) k_ _ Tryz.underlying66 rfl
theorem dw{w:World}{b o:Nat}{t:bR}(h:w.rangeAt b o t.cells):w.cell? ⟨b,o,none⟩=some (.int .i64 t.ak)∧w.cell? ⟨b,o+1,none⟩=some (.int .i64 t.aM)∧w.cell? ⟨b,o+2,none⟩=some (.int .i64 t.number)∧w.cell? ⟨b,o+3,none⟩=some (.int .i64 t.answer.e)∧w.cell? ⟨b,o+4,none⟩=some (.int .i64 t.answer.aK)∧w.cell? ⟨b,o+5,none⟩=some (.int .i64 t.answer.aq)∧w.cell? ⟨b,o+6,none⟩=some (.int .i64 t.answer.bW)∧w.cell? ⟨b,o+7,none⟩=some (.int .i64 t.answer.size):=
 ⟨h 0 _ rfl,h 1 _ rfl,h 2 _ rfl,h 3 _ rfl,h 4 _ rfl,h 5 _ rfl,h 6 _ rfl,h 7 _ rfl⟩
theorem JP{w:World}{a:Option Addr}{ts:List bR}(h:bF ay w a ts){k:Nat}(hk:k< ts.length):
 ∃b o,a=some ⟨b,o,none⟩∧∀w',Below w.heap.size w w'→w'.cell? ⟨b,o+k* 8,none⟩=some (.int .i64 ts[k].ak)∧w'.cell? ⟨b,o+k* 8+1,none⟩=some (.int .i64 ts[k].aM)∧w'.cell? ⟨b,o+k* 8+2,none⟩=some (.int .i64 ts[k].number)∧w'.cell? ⟨b,o+k* 8+3,none⟩=some (.int .i64 ts[k].answer.e)∧w'.cell? ⟨b,o+k* 8+4,none⟩=some (.int .i64 ts[k].answer.aK)∧w'.cell? ⟨b,o+k* 8+5,none⟩=some (.int .i64 ts[k].answer.aq)∧w'.cell? ⟨b,o+k* 8+6,none⟩=some (.int .i64 ts[k].answer.bW)∧w'.cell? ⟨b,o+k* 8+7,none⟩=some (.int .i64 ts[k].answer.size):=by
 obtain⟨b,o,rfl,hc⟩:=bF.range h hk;exact⟨b,o,rfl,fun w' hb=>dw (hc w' hb)⟩
theorem Lb(t u:bR)(w:World):(Op.equalIn 10000 66 t.agg u.agg).run Tryz.prog w= .ok (decide (t=u)) w:=by
 obtain⟨t0,t1,t2,⟨t3e,Vw,R6,R7,Vx⟩⟩:=t;obtain⟨u0,u1,u2,⟨u3e,VK,Sj,Sk,VL⟩⟩:=u;have hp:Tryz.prog.stoodInHeld 66=false:= k_;have IP:=fun (d:Nat) (a b:Int) (w:World)=>run_equalIn_int (P:=Tryz.prog) w d 38 .i64 .i64 a b Tryz.underlying38
 have hint:=fun (d:Nat) (a b:Int) (w:World)=>run_equalIn_int (P:=Tryz.prog) w d 3 .i64 .i64 a b Tryz.underlying3
 have Oz:Tryz.prog.stoodInHeld 40=false:= k_;simp[go_sem,hp,IP,hint,Oz];by_cases e0:t0= u0<;>by_cases e1:t1= u1<;>by_cases e2:t2= u2<;>by_cases e3:t3e= u3e<;>by_cases e4:Vw= VK<;>by_cases e5:R6= Sj<;>by_cases e6:R7= Sk<;>by_cases e7:Vx= VL<;>simp [e0,e1,e2,e3,e4,e5,e6,e7]
theorem Jd(t u:bR)(w:World):(binOp .neq 66 t.agg u.agg).run Tryz.prog w= .ok (.bool (!decide (t=u))) w:=by
 rw[run_neq_struct,Lb];rfl
theorem OY{H:Type}{enc:TypeId× Value→H}{w:World}{cs:List Value}(h:Rd enc Tryz.prog w 66 cs):∃x: bR,cs=x.cells:= by
 obtain⟨hl,hf⟩:=h.struct Tryz.underlying66;have hn:Tryz.prog.cellsOf 66=8:= k_;have jm:Tryz.prog.cellsOf 3=1:= k_;have Bf:Tryz.prog.cellsOf 40=5:= k_;rw[hn]at hl
 match cs,hl with
 |[v0,v1,v2,v3,v4,v5,v6,v7],_=>
  have f0:Rd enc Tryz.prog w 3 ((([v0,v1,v2,v3,v4,v5,v6,v7]:List Value).drop 0).take (Tryz.prog.cellsOf 3)):=hf 0 _ rfl;rw[jm]at f0;replace f0:Rd enc Tryz.prog w 3 [v0]:=f0;obtain⟨x0,e0,-⟩:=f0.int Tryz.underlying3;have f1:Rd enc Tryz.prog w 3 ((([v0,v1,v2,v3,v4,v5,v6,v7]:List Value).drop 1).take (Tryz.prog.cellsOf 3)):=hf 1 _ rfl;rw[jm]at f1;replace f1:Rd enc Tryz.prog w 3 [v1]:=f1;obtain⟨x1,e1,-⟩:=f1.int Tryz.underlying3;have f2:Rd enc Tryz.prog w 3 ((([v0,v1,v2,v3,v4,v5,v6,v7]:List Value).drop 2).take (Tryz.prog.cellsOf 3)):=hf 2 _ rfl;rw[jm]at f2;replace f2:Rd enc Tryz.prog w 3 [v2]:=f2;obtain⟨x2,e2,-⟩:=f2.int Tryz.underlying3;have f3:Rd enc Tryz.prog w 40 ((([v0,v1,v2,v3,v4,v5,v6,v7]:List Value).drop 3).take (Tryz.prog.cellsOf 40)):=hf 3 _ rfl;rw[Bf]at f3;replace f3:Rd enc Tryz.prog w 40 [v3,v4,v5,v6,v7]:=f3;obtain⟨x3,e3⟩:=Gq f3;simp only[List.cons.injEq,and_true]at e0 e1 e2 e3;subst e0;subst e1;subst e2;obtain⟨rfl,rfl,rfl,rfl,rfl⟩:=e3;exact⟨⟨x0,x1,x2,x3⟩,rfl⟩
theorem LX{H:Type}{enc:TypeId× Value→H}{w:World}{a:Option Addr}{len cap:Nat}(h:Rd enc Tryz.prog w 25 [.slice a len cap]):
 ∃ts: List bR,ts.length=len∧ len≤cap∧ cap≤maxLen∧ (a=none→ cap=0)∧bF ay w a ts:=by
 obtain⟨xs,h1,h2,h3,_,h5,_,hr⟩:=Rd.rows (α:=bR) (cells:=bR.cells) (size:=8) (good:=fun _=>True) (fun _=>rfl) d_ Tryz.underlying25 k_ (fun cs hcs=>by obtain⟨x,hx⟩:=OY hcs;exact⟨x,hx,trivial⟩) h;exact⟨xs,h1,h2,h3,h5,hr⟩
theorem yQ(r b:Int)(w:World):Calls Tryz.prog 115 (Kf r b) w fun e w'=>e= .returned (.bool (mg r b))∧w= w':=by
 go_each [r<0,1000000<r,b<0,1000000<b]=>(
  go_enter Tryz.func115,Tryz.ntmps115;go_wp2;go_returns;refine⟨bZ ?_,rfl⟩;unfold mg
  first|(refine(decide_eq_true ?_).symm;omega)|(refine(decide_eq_false ?_).symm;omega)|(rw[Bool.eq_iff_iff];simp only[decide_eq_true_iff,Bool.and_eq_true];omega))
theorem pY(r b:Int)(w:World):Calls Tryz.prog 96 (Kf r b) w fun e w'=>e= .returned (.bool (mg r b))∧w= w':=by
 go_each [r<0,1000000<r,b<0,1000000<b]=>(
  go_enter Tryz.func96,Tryz.ntmps96;go_wp2;go_returns;refine⟨bZ ?_,rfl⟩;unfold mg
  first|(refine(decide_eq_true ?_).symm;omega)|(refine(decide_eq_false ?_).symm;omega)|(rw[Bool.eq_iff_iff];simp only[decide_eq_true_iff,Bool.and_eq_true];omega))
theorem jZ(n lo hi:Int)(w:World):Calls Tryz.prog 104 (vi3 n lo hi) w fun e w'=>e= .returned (.int .i64 (bL n lo hi))∧w= w':=by
 go_each [n<lo,hi<n,hi<lo]=>(
  go_enter Tryz.func104,Tryz.ntmps104;go_wp2;go_returns
  exact⟨dZ (by unfold bL;omega),rfl⟩)
theorem Pb(aq out:Int)(w:World):Calls Tryz.prog 153 (Kf aq out) w fun e w'=>e= .returned (.int .i64 (qA aq out))∧w= w':=by
 have h:=eA aq 0 1000000 o_;have h2:=eA out 0 (bL aq 0 1000000) h.1;obtain⟨h3,h4⟩:=h;obtain⟨h5,h6⟩:=h2;go_enter Tryz.func153,Tryz.ntmps153;go_wp2_with(go_at_call 104;((with_reducible refine(jZ _ _ _ _).mono ?_);rintro e w' ⟨rfl,rfl⟩));go_returns;exact⟨rfl,rfl⟩
theorem DK(b aq out:Int)(w:World):Calls Tryz.prog 106 (vi3 b aq out) w fun e w'=>e= .returned (.int .i64 (gF b aq out))∧w= w':=by
 go_enter Tryz.func106,Tryz.ntmps106;go_wp2_with(first|(go_at_call 104;((with_reducible refine(jZ _ _ _ _).mono ?_);rintro e w' ⟨rfl,rfl⟩))|(go_at_call 153;((with_reducible refine(Pb _ _ _).mono ?_);rintro e w' ⟨rfl,rfl⟩)));go_returns;exact⟨rfl,rfl⟩
theorem xO(aq out:Int)(w:World):Calls Tryz.prog 139 (Kf aq out) w fun e w'=>e= .returned (.int .i64 (qA aq out))∧w= w':=by
 go_each [aq<0,1000000<aq,out<0,aq<out,1000000<out]=>(
  go_enter Tryz.func139,Tryz.ntmps139;go_wp2
  all_goals
   go_returns
   exact⟨dZ (by unfold qA bL;omega),rfl⟩)
theorem ua(b aq out:Int)(w:World):Calls Tryz.prog 144 (vi3 b aq out) w fun e w'=>e= .returned (.int .i64 (gF b aq out))∧w= w':=by
 obtain⟨h0,_⟩:=iA aq out
 go_each [b<0,qA aq out<b]=>(
  go_enter Tryz.func144,Tryz.ntmps144;go_wp2_with(go_at_call 139;((with_reducible refine(xO _ _ _).mono ?_);rintro e w' ⟨rfl,rfl⟩));go_returns
  exact⟨dZ (by unfold gF bL;omega),rfl⟩)
theorem Nz(x:aj)(last:Int)(bl:Nat)(w:World)(hc:w.cell? ⟨bl,0,none⟩=some (.int .i64 last)):
 Calls Tryz.prog 132 #[x.agg,.pointer (some ⟨bl,0,none⟩)] w fun e w'=>e= .returned (.bool (BA last x))∧Below w.heap.size w w':=by
 have hlt:=World.block_lt_of_cell? w _ hc;simp only at hlt
 go_each [last<x.id,x.id≤16]=>(
  go_enter Tryz.func132,Tryz.ntmps132;go_wp2;go_returns;refine⟨bZ ?_,by go_grown⟩;unfold BA
  first|(refine(decide_eq_true ?_).symm;omega)|(refine(decide_eq_false ?_).symm;omega)|(rw[Bool.eq_iff_iff];simp only[decide_eq_true_iff,Bool.and_eq_true];omega))
theorem NA(x:aj)(w:World):
 Calls Tryz.prog 133 #[x.agg] w fun e w'=>e= .returned (.bool (zD x))∧Below w.heap.size w w':=by
 go_enter Tryz.func133,Tryz.ntmps133;go_wp2_with(go_at_call 115;((with_reducible refine(yQ _ _ _).mono ?_);rintro e w' ⟨rfl,rfl⟩));go_returns;exact⟨rfl,by go_grown⟩
theorem NB(x:aj)(w:World):
 Calls Tryz.prog 134 #[x.agg] w fun e w'=>e= .returned (.bool (vY x))∧Below w.heap.size w w':=by
 go_each [0≤x.bucket,x.bucket≤1000000000]=>(
  go_enter Tryz.func134,Tryz.ntmps134;go_wp2;go_returns;refine⟨bZ ?_,by go_grown⟩;unfold vY
  first|(refine(decide_eq_true ?_).symm;omega)|(refine(decide_eq_false ?_).symm;omega)|(rw[Bool.eq_iff_iff];simp only[decide_eq_true_iff,Bool.and_eq_true];omega))
theorem NC(x:aj)(w:World):
 Calls Tryz.prog 135 #[x.agg] w fun e w'=>e= .returned (.bool (uD x))∧Below w.heap.size w w':=by
 obtain⟨id,aK,aq,bucket,gone⟩:=x;cases gone
 ·go_enter Tryz.func135,Tryz.ntmps135;go_wp2;go_returns;exact⟨bZ (by simp[uD]),by go_grown⟩
 ·go_enter Tryz.func135,Tryz.ntmps135;go_wp2
  all_goals
   go_returns;refine⟨bZ ?_,by go_grown⟩
   first|(simp_all [uD];done)|(simp_all [uD];rfl)
def jF(last:Int)(x:aj):Nat→ Bool
 |0=> BA last x
 |1=> zD x
 |2=> vY x
 |_=> uD x
def iQ(bl:Nat):Nat→ Value
 |0=> .func (.func 132) #[] #[.pointer (some ⟨bl,0,none⟩)]
 |1=> .func (.func 133) #[] #[]
 |2=> .func (.func 134) #[] #[]
 |_=> .func (.func 135) #[] #[]
theorem RA(x:aj)(last:Int)(bl bx:Nat)(i:Nat)(hi:i< 4)(w:World)(hc:w.cell? ⟨bl,0,none⟩=some (.int .i64 last))(h0:w.cell? ⟨bx,0,none⟩=some (.int .i64 x.id))(h1:w.cell? ⟨bx,1,none⟩=some (.int .i64 x.aK))(h2:w.cell? ⟨bx,2,none⟩=some (.int .i64 x.aq))(h3:w.cell? ⟨bx,3,none⟩=some (.int .i64 x.bucket))(h4:w.cell? ⟨bx,4,none⟩=some (.bool x.gone)):
 Calls Tryz.prog 137 #[iQ bl i,.pointer (some ⟨bx,0,none⟩)] w fun e w'=>e= .returned (.bool (!jF last x i))∧Below w.heap.size w w':=by
 match i,hi with
 |0,_=>
  unfold iQ jF;go_enter Tryz.func137,Tryz.ntmps137;go_wp2_with(go_at_call 132;((with_reducible refine(Nz x last _ _ hc).mono ?_);rintro e w' ⟨rfl,hb⟩));go_returns;exact⟨rfl,hb⟩
 |1,_=>
  unfold iQ jF;go_enter Tryz.func137,Tryz.ntmps137;go_wp2_with(go_at_call 133;((with_reducible refine(NA x _).mono ?_);rintro e w' ⟨rfl,hb⟩));go_returns;exact⟨rfl,hb⟩
 |2,_=>
  unfold iQ jF;go_enter Tryz.func137,Tryz.ntmps137;go_wp2_with(go_at_call 134;((with_reducible refine(NB x _).mono ?_);rintro e w' ⟨rfl,hb⟩));go_returns;exact⟨rfl,hb⟩
 |3,_=>
  unfold iQ jF;go_enter Tryz.func137,Tryz.ntmps137;go_wp2_with(go_at_call 135;((with_reducible refine(NC x _).mono ?_);rintro e w' ⟨rfl,hb⟩));go_returns;exact⟨rfl,hb⟩
def pO(q:Nat→ Bool)(n:Nat):Int:= match(List.range n).find? q with|some k=>(k:Int)|none=> -1
theorem kE{q:Nat→ Bool}{n k:Nat}(hk:k< n)(hno:∀j,j<k→ q j=false)(hq:q k=true):pO q n=k:= by
 have:(List.range n).find? q=some k:=by
  rw[List.find?_range_eq_some];exact⟨hq,by simpa using hk,fun j hj=>by rw[hno j hj];rfl⟩
 unfold pO;rw[this]
theorem uM{q:Nat→ Bool}{n:Nat}(hno:∀j,j<n→ q j=false):pO q n= -1:= by
 have:(List.range n).find? q=none:= by
  rw[List.find?_range_eq_none];exact fun j hj=>by rw[hno j hj];rfl
 unfold pO;rw[this]
theorem Af(q:Nat→ Bool)(vs:List Value)(a:Option Addr)(n c:Nat)(cM:FuncId)(cap:Array Value)(w:World)(hn:vs.length= n)(hl:n≤ maxLen)(hr:Row w a vs)(qp:∀(args:Array Value) (w:World),(callFunc cM args).run Tryz.prog w= .ok (.enter cM args) w)(hf:∀i v,vs[i]? =some v→∀w',Below w.heap.size w w'→Calls Tryz.prog cM (#[v]++cap) w' fun e w''=>e= .returned (.bool (q i))∧Below w'.heap.size w' w''):
 Calls Tryz.prog 171 #[.slice a n c,.func (.func cM) #[] cap] w fun e w'=>e= .returned (.int .i64 (pO q n))∧Below w.heap.size w w':=by
 subst hn;have hl2:=cX hl;go_enter Tryz.func171,Tryz.ntmps171;go_wp2;go_loopw [8] (fun i wr=>∃k: Nat,k≤vs.length∧ i= .int .i64 k∧(∀j,j<k→ q j=false)∧Below w.heap.size w wr) (fun i _=>vs.length- (intOf i).toNat)
 case atStart=>exact ⟨0,by omega,rfl,by omega,Below.refl _ _⟩
 case round=>
  obtain⟨k,hk,rfl,hno,hb⟩:=hrel;have sP:=h_ hno;clear hno;by_cases hlt:k< vs.length
  ·have hv:vs[k]? =some vs[k]:=List.getElem?_eq_getElem hlt;obtain⟨b,o,rfl,hcs⟩:=hr.jH hv;have h0:=hcs _ hb;have HF:=h_ (hf k _ hv);clear hcs hf hv;by_cases hp:q k=true
   ·go_wp2_with(refine(HF wr hb).mono ?_;rw[hp];rintro e w2 ⟨rfl,hb2⟩);go_returns;exact⟨dZ (kE hlt sP.out hp).symm,hb.trans (hb2.mono hb.size)⟩
   ·rw[Bool.not_eq_true]at hp;go_wp2_with(refine(HF wr hb).mono ?_;rw[hp];rintro e w2 ⟨rfl,hb2⟩);go_roundw
    case rel=>exact ⟨k+1,by omega,by go_num,fun j hj=>by rcases Nat.lt_succ_iff_lt_or_eq.1 hj with h1|rfl;exact sP.out j h1;exact hp,hb.trans (hb2.mono hb.size)⟩
    case measure=>simp [intOf];omega
  ·go_wp2;go_returns;exact⟨dZ (uM fun j h=>sP.out j o_).symm,hb⟩
theorem uG(q:Nat→ Bool)(vs:List Value)(a:Option Addr)(n c:Nat)(cM:FuncId)(cap:Array Value)(w:World)(hn:vs.length= n)(hl:n≤ maxLen)(hr:Row w a vs)(qp:∀(args:Array Value) (w:World),(callFunc cM args).run Tryz.prog w= .ok (.enter cM args) w)(hf:∀i v,vs[i]? =some v→∀w',Below w.heap.size w w'→Calls Tryz.prog cM (#[v]++cap) w' fun e w''=>e= .returned (.bool (q i))∧Below w'.heap.size w' w''):
 Calls Tryz.prog 136 #[.slice a n c,.func (.func cM) #[] cap] w fun e w'=>e= .returned (.bool (decide (0≤pO q n)))∧Below w.heap.size w w':=by
 have HF:=h_ hf;have VT:=h_ qp;clear hf qp;go_enter Tryz.func136,Tryz.ntmps136;go_wp2_with(go_at_call 171;((with_reducible refine(Af q vs _ _ _ _ _ _ hn hl hr VT.out HF.out).mono ?_);rintro e w' ⟨rfl,hb⟩));go_returns;exact⟨rfl,hb⟩
theorem Fx(last:Int)(x:aj):decide (0≤pO (fun i=> !jF last x i) 4)= !fR last x:=by
 unfold fR;by_cases h1:BA last x=true
 ·by_cases h2:zD x=true
  ·by_cases h3:vY x=true
   ·by_cases h4:uD x=true
    ·rw[uM (fun j hj=>by match j,hj with|0,_=>simp [jF,h1]|1,_=>simp [jF,h2]|2,_=>simp [jF,h3]|3,_=>simp [jF,h4])];simp[h1,h2,h3,h4]
    ·rw[kE (k:=3) o_ (fun j hj=>by match j,hj with|0,_=>simp [jF,h1]|1,_=>simp [jF,h2]|2,_=>simp [jF,h3]) (by simp[jF,h4])];simp[h1,h2,h3,h4]
   ·rw[kE (k:=2) o_ (fun j hj=>by match j,hj with|0,_=>simp [jF,h1]|1,_=>simp [jF,h2]) (by simp[jF,h3])];simp[h1,h2,h3]
  ·rw[kE (k:=1) o_ (fun j hj=>by match j,hj with|0,_=>simp [jF,h1]) (by simp[jF,h2])];simp[h1,h2]
 ·rw[kE (k:=0) o_ (fun j hj=>by omega) (by simp[jF,h1])];simp[h1]
theorem DM(args:Array Value)(w:World):(callFunc 137 args).run Tryz.prog w= .ok (.enter 137 args) w:=k_
theorem dJ(ts:List aj)(a:Option Addr)(n c:Nat)(w:World)(hn:ts.length= n)(hl:ts.length≤ maxLen)(hr:dK w a ts):
 Calls Tryz.prog 76 #[.slice a n c] w fun e w'=>e= .returned (.bool (aZ 0 ts))∧Below w.heap.size w w':=by
 subst hn;have hl2:=cX hl;go_enter Tryz.func76,Tryz.ntmps76;go_wp2
 go_loopw [11] (fun i wr=>∃k: Nat,k≤ts.length∧ i= .int .i64 k∧aZ 0 (ts.take k)=true∧ wr.cell? ⟨w.heap.size,0,none⟩=some (.int .i64 (fL (ts.take k)))∧wr.frozen? ⟨w.heap.size,0,none⟩=false∧ w.heap.size+2≤ wr.heap.size∧
  Row wr (some ⟨w.heap.size+1,0,none⟩) [iQ w.heap.size 0,iQ w.heap.size 1,iQ w.heap.size 2,iQ w.heap.size 3]∧Below w.heap.size w wr) (fun i _=>ts.length- (intOf i).toNat)
 case atStart=>
  refine⟨0,by omega,rfl,rfl,?_,?_,?_,?_,by go_grown⟩
  ·rw[World.cell?_alloc_past _ _ _ (by simp),World.cell?_alloc_at _ _ _ _ rfl];rfl
  ·rw[World.frozen?_alloc_past _ _ _ (by simp),World.frozen?_alloc_at _ _ _ _ rfl]
  ·simp
  ·have:=Row.new (w.alloc (.cells #[.int .i64 0] 3)) #[iQ w.heap.size 0,iQ w.heap.size 1,iQ w.heap.size 2,iQ w.heap.size 3] 87 (0,0);simp only[World.size_alloc]at this;exact this
 case round=>
  obtain⟨k,hk,rfl,hok,hlast,hfz,hsz,hrow,hb⟩:=hrel;by_cases hlt:k< ts.length
  ·obtain⟨b,o,rfl,hcs⟩:=hr.at hlt;obtain⟨h0,h1,h2,h3,h4⟩:=hcs _ hb;have U0:w.heap.size< wr.heap.size:=o_;have hcall:=uG (fun i=> !jF (fL (ts.take k)) ts[k] i) [iQ w.heap.size 0,iQ w.heap.size 1,iQ w.heap.size 2,iQ w.heap.size 3] (some ⟨w.heap.size+1,0,none⟩) 4 4 137
    #[.pointer (some ⟨wr.heap.size,0,none⟩)] (wr.alloc (.cells (gW ts[k].id ts[k].aK ts[k].aq ts[k].bucket ts[k].gone) 75)) rfl d_ (hrow.alloc _) DM
    (by
     intro i v hv w' hb';have hi:i< 4:=(List.getElem?_eq_some_iff.1 hv).1;obtain rfl:iQ w.heap.size i=v:= by
      match i,hi with|0,_=>simpa using hv|1,_=>simpa using hv|2,_=>simpa using hv|3,_=>simpa using hv
     have hx:∀j,w'.cell? ⟨wr.heap.size,j,none⟩= #[Value.int .i64 ts[k].id,.int .i64 ts[k].aK,.int .i64 ts[k].aq,.int .i64 ts[k].bucket,.bool ts[k].gone][j]?:=fun j=>
      (hb'.cell (p:=⟨wr.heap.size,j,none⟩) (by simp)).trans (World.cell?_alloc_at _ _ _ _ rfl)
     exact RA ts[k] _ w.heap.size wr.heap.size i hi w' ((hb'.cell (p:=⟨w.heap.size,0,none⟩) (by simp;omega)).trans ((World.cell?_alloc_past _ _ _ U0).trans hlast)) (hx 0) (hx 1) (hx 2) (hx 3) (hx 4))
   rw[Fx]at hcall;clear hcs;have MW:=h_ hlast;have pA:=h_ hrow;have HFZ:=h_ hfz;have fT:=h_ hok;clear hlast hrow hfz hok;by_cases BP:fR (fL (ts.take k)) ts[k]=true
   ·rw[BP]at hcall;have HC:=h_ hcall;have nP:=h_ BP;clear hcall BP;go_wp2_with(go_at_call 136;((with_reducible refine HC.out.mono ?_);rintro e w2 ⟨rfl,hb2⟩;have c1:=(hb2.cell (p:=⟨wr.heap.size,0,none⟩) (by simp)).trans (World.cell?_alloc_at _ _ _ _ rfl);have c2:=(hb2.cell (p:=⟨w.heap.size,0,none⟩) (by simp;omega)).trans ((World.cell?_alloc_past _ _ _ U0).trans MW.out);have c3:=(hb2.frozen (p:=⟨w.heap.size,0,none⟩) (by simp;omega)).trans ((World.frozen?_alloc_past _ _ _ U0).trans HFZ.out)));go_roundw
    case rel=>
     have hrow2:=(pA.alloc (.cells (gW ts[k].id ts[k].aK ts[k].aq ts[k].bucket ts[k].gone) 75)).below hb2;refine⟨k+1,by omega,by go_num,by rw[nI hlt,fT.out,nP.out];rfl,?_,?_,?_,hrow2.Pj (by simp) _,?_⟩
     ·rw[xJ hlt];exact World.cell?_setCell_same _ _ _ c2
     ·rw[World.frozen?_setCell];exact c3
     ·have:=hb2.size;simp at this;simp;omega
     ·exact((hb.alloc hb.size _).trans (hb2.mono (by simp;omega))).setCell n_ _
    case measure=>simp [intOf];omega
   ·rw[Bool.not_eq_true]at BP;rw[BP]at hcall;have HC:=h_ hcall;have nP:=h_ BP;clear hcall BP;go_wp2_with(go_at_call 136;((with_reducible refine HC.out.mono ?_);rintro e w2 ⟨rfl,hb2⟩));go_returns;exact⟨bZ (Bb hlt nP.out).symm,(hb.alloc hb.size _).trans (hb2.mono (by simp;omega))⟩
  ·have fT:=h_ hok;clear hok;go_wp2;go_returns;exact⟨bZ (by have:=fT.out;rw[List.take_of_length_le o_]at this;exact this.symm),hb⟩
theorem eI:sG Tryz.prog 22 75 5 40 where
 under:=Tryz.underlying22
 info:=by
  have h:(Tryz.prog.info? 75).map (fun i=>(i.zero,i.size,i.bytes))=some (some (.agg Mt),5,40):=k_;obtain⟨i,hi,h0,h1,h2⟩:=info_parts h;exact⟨i,_,hi,h0,h1,h2,rfl⟩
 pos:=d_
 oJ:=d_
theorem ug(t:aj):(aj.cells t).length=5:= rfl
theorem qc(ts:List aj):∀u∈ ts.flatMap aj.cells,u.oneCell'=true:= by
 intro u hu;obtain⟨t,_,ht⟩:=List.mem_flatMap.1 hu;simp only[aj.cells,List.mem_cons,List.not_mem_nil,or_false]at ht;rcases ht with rfl|rfl| rfl|rfl| rfl<;>rfl
theorem dK.take{w:World}{a:Option Addr}{ts:List aj}(h:dK w a ts)(k:Nat):dK w a (ts.take k):=by
 unfold dK;rw[←kF ug];exact Row.take h _
theorem dK.drop{w:World}{b o:Nat}{ts:List aj}(h:dK w (some ⟨b,o,none⟩) ts)(k:Nat):dK w (some ⟨b,o+k* 5,none⟩) (ts.drop k):=by
 unfold dK;rw[←mz ug];exact Row.drop h _
theorem dK.tail{w:World}{b o c k:Nat}{ts:List aj}(h:dK w (some ⟨b,o,none⟩) ts)(hc:ts.length≤ c):dK w (if c=k then some ⟨b,o,none⟩else some ⟨b,o+k* 5,none⟩) (ts.drop k):=by
 split
 ·rw[List.drop_eq_nil_of_le o_];exact .inl rfl
 ·exact h.drop k
theorem dK.Tv{w:World}{a:Option Addr}{c k:Nat}{ts:List aj}(h:dK w a ts)(hc:ts.length≤ c):dK w (if c=k then a else Option.map (fun x=>x.add (k*5)) a) (ts.drop k):=by
 by_cases hd:ts.drop k=[]
 ·rw[hd];exact .inl rfl
 ·have hk:k< ts.length:=by
   rcases Nat.lt_or_ge k ts.length with h1|h1
   ·exact h1
   ·exact absurd (List.drop_eq_nil_of_le h1) hd
  obtain⟨b,o,rfl,_⟩:=h.at hk;rw[if_neg o_];have:=h.drop k;by_cases h0:k= 0
  ·subst h0;simpa[Addr.add]using this
  ·have e:(⟨b,o,none⟩:Addr).add (k*5)=⟨b,o+k* 5,none⟩:=by unfold Addr.add;rw[if_neg o_]
   rw[Option.map_some,e];exact this
theorem dK.below{w w':World}{a:Option Addr}{ts:List aj}(h:dK w a ts)(hb:Below w.heap.size w w'):dK w' a ts:=Row.below h hb
theorem dK.length(ts:List aj):(ts.flatMap aj.cells).length=ts.length* 5:=kg ug ts
def KI(w:World)(src:Option Addr)(ts:List aj)(e:Ending)(w':World):Prop:=
 ∃a c,e= .returned (.slice a ts.length c)∧ts.length≤ c∧(a=none→ c=0)∧cg w.heap.size src a∧dK w' a ts∧Below w.heap.size w w'
theorem Jl(x:aj)(id:Int)(bl:Nat)(w:World)(hc:w.cell? ⟨bl,0,none⟩=some (.int .i64 id)):
 Calls Tryz.prog 172 #[x.agg,.pointer (some ⟨bl,0,none⟩)] w fun e w'=>e= .returned (.bool (x.id==id))∧Below w.heap.size w w':=by
 have hlt:=World.block_lt_of_cell? w _ hc;simp only at hlt;go_enter Tryz.func172,Tryz.ntmps172;go_wp2;go_returns;exact⟨rfl,by go_grown⟩
theorem Mq(x:aj)(id:Int)(bx:Nat)(w:World)(hc:w.cell? ⟨bx,0,none⟩=some (.int .i64 id)):
 Calls Tryz.prog 163 #[x.agg,.pointer (some ⟨bx,0,none⟩)] w fun e w'=>e= .returned (.bool (decide (id<x.id)))∧Below w.heap.size w w':=by
 have hlt:=World.block_lt_of_cell? w _ hc;simp only at hlt;go_enter Tryz.func163,Tryz.ntmps163;go_wp2;go_returns;exact⟨rfl,by go_grown⟩
theorem DN(args:Array Value)(w:World):(callFunc 172 args).run Tryz.prog w= .ok (.enter 172 args) w:=k_
theorem Fp(args:Array Value)(w:World):(callFunc 163 args).run Tryz.prog w= .ok (.enter 163 args) w:=k_
theorem Fv(ts:List aj)(a:Option Addr)(n c:Nat)(cM:FuncId)(cap:Array Value)(p:aj→ Bool)(w:World)(hn:ts.length= n)(hl:ts.length≤ maxLen)(hr:dK w a ts)(qp:∀(args:Array Value) (w:World),(callFunc cM args).run Tryz.prog w= .ok (.enter cM args) w)(hf:∀t∈ ts,∀w',Below w.heap.size w w'→Calls Tryz.prog cM (#[t.agg]++cap) w' fun e w''=>e= .returned (.bool (p t))∧Below w'.heap.size w' w''):
 Calls Tryz.prog 162 #[.slice a n c,.func (.func cM) #[] cap] w fun e w'=>e= .returned (.int .i64 (idx p ts))∧Below w.heap.size w w':=by
 have HF:=h_ hf;have VT:=h_ qp;clear hf qp;go_enter Tryz.func162,Tryz.ntmps162;go_wp2_with(go_at_call 39;((with_reducible refine(BQ ts _ _ _ _ _ p _ hn hl hr VT.out HF.out).mono ?_);rintro e w' ⟨rfl,hb⟩));go_returns;exact⟨rfl,hb⟩
theorem o6(ts:List aj)(a:Option Addr)(n c:Nat)(id:Int)(w:World)(hn:ts.length= n)(hl:ts.length≤ maxLen)(hr:dK w a ts):
 Calls Tryz.prog 138 (Bp a n c id) w fun e w'=>e= .returned (.int .i64 (idx (fun x=>x.id== id) ts))∧Below w.heap.size w w':=by
 have hcall:=Fv ts a n c 172 #[.pointer (some ⟨w.heap.size,0,none⟩)] (fun x=>x.id== id) (w.alloc (.cells #[.int .i64 id] 3)) hn hl (Row.alloc hr _) DN
  (fun t _ w' hb=>Jl t id _ w' ((hb.cell (p:=⟨w.heap.size,0,none⟩) (by simp)).trans (World.cell?_alloc_at _ _ _ _ rfl)))
 have HC:=h_ hcall;clear hcall;go_enter Tryz.func138,Tryz.ntmps138;go_wp2_with(go_at_call 162;((with_reducible refine HC.out.mono ?_);rintro e w' ⟨rfl,hb⟩));go_returns;exact⟨rfl,(b_.alloc n_ _).trans (hb.mono (by simp))⟩
def Us(w:World)(ts:List aj)(e:Ending)(w':World):Prop:=
 ∃a c,e= .returned (.slice a ts.length c)∧cg w.heap.size none a∧Can w' w.heap.size 75 5 a ts.length c (ts.flatMap aj.cells)∧(ts≠[]→w'.ownsRow w.heap.size 75 5 (.slice a ts.length c) ts.length (ts.flatMap aj.cells))∧Below w.heap.size w w'
theorem wq(ts:List aj)(a:Option Addr)(n c:Nat)(w:World)(hn:ts.length= n)(hl:ts.length≤ 1000)(hc:a= none→c= 0)(hnc:n≤ c)(hr:dK w a ts):
 Calls Tryz.prog 98 #[.slice a n c] w (Us w ts):=by
 subst hn;cases a with
 |none=>
  obtain rfl:=hc rfl;have h0:ts.length= 0:=o_;obtain rfl:ts= []:=List.eq_nil_of_length_eq_zero h0;go_enter Tryz.func98,Tryz.ntmps98;have hnil:=Lib.run_eql_slice_nil (P:=Tryz.prog) w 22 75 none 0 0 0 0 Tryz.underlying22;go_wp2;go_returns;exact⟨none,0,rfl,cg.nil _ _,Can.nil _ _ _ _,fun h=>absurd rfl h,Below.refl _ _⟩
 |some x=>
  go_enter Tryz.func98,Tryz.ntmps98;have hnil:=Lib.run_eql_slice_nil (P:=Tryz.prog) w 22 75 (some x) ts.length c 0 0 Tryz.underlying22;go_wp2_with(at_builtin;refine dU eI rfl _ _ rfl w.heap.size _ 0 _ _ rfl (Can.empty _ _ _ _ _) _ ts.length _ (ts.flatMap aj.cells) rfl (dK.length _) (Row.alloc hr _) (qc _) o_ (by simp) ?_;intro a' c' w3 fc _ hb3 hown);go_returns;rw[Nat.zero_add,List.nil_append]at fc hown;have cE:cg w.heap.size none a':=by
   by_cases h0:0< ts.length
   ·exact cg.own (hown.1 h0) n_
   ·rw[(hown.2 o_).1];intro b o s hb;simp at hb;exact .inl o_
  refine⟨a',c',rfl,cE,fc,fun h=>hown.1 (List.length_pos_iff.2 h),(b_.alloc n_ _).trans hb3⟩
theorem rN(ts:List aj)(a:Option Addr)(n c:Nat)(id:Int)(w:World)(hn:ts.length= n)(hl:ts.length≤ 1000)(hc:a= none→c= 0)(hnc:n≤ c)(hr:dK w a ts):
 Calls Tryz.prog 117 (Bp a n c id) w (KI w a (cw id ts)):=by
 subst hn;have hmax:ts.length≤ maxLen:=bD o_;cases hf:ts.findIdx? (fun x=>x.id== id)with
 |none=>
  have HP:Hid (idx (fun x=>x.id== id) ts= -1):=by show idx _ _=_;unfold idx;rw[hf]
  have HW:Hid (cw id ts=ts):=by show cw _ _=_;unfold cw;rw[hf]
  clear hf;go_enter Tryz.func117,Tryz.ntmps117;go_wp2_with(first|(go_at_call 138;((with_reducible refine(o6 ts _ _ _ _ _ rfl hmax hr).mono ?_);rw[HP.out];rintro e w2 ⟨rfl,hb⟩))|(go_at_call 98;((with_reducible refine(wq ts _ _ _ _ rfl hl hc hnc (hr.below hb)).mono ?_);rintro e w3 ⟨a',c',rfl,cE,di,_,hb2⟩)));go_returns;exact⟨a',c',by rw[HW.out];rfl,by rw[HW.out];exact di.le,di.none d_,fun b o s h=> .inl (Nat.le_trans hb.size (by rcases cE b o s h with h1|⟨_,_,h1⟩;exact h1;cases h1)),by rw[HW.out];exact di.row,hb.trans (hb2.mono hb.size)⟩
 |some k=>
  have hk:k< ts.length:=(List.findIdx?_eq_some_iff_getElem.1 hf).1;have HP:Hid (idx (fun x=>x.id== id) ts=(k:Int)):=by show idx _ _=_;unfold idx;rw[hf]
  have HW:Hid (cw id ts=ts.take k++ts.drop (k+1)):=by show cw _ _=_;unfold cw;rw[hf]
  clear hf;go_enter Tryz.func117,Tryz.ntmps117;go_wp2_with(go_at_call 138;((with_reducible refine(o6 ts _ _ _ _ _ rfl hmax hr).mono ?_);rw[HP.out];rintro e w2 ⟨rfl,hb⟩));have YA:IntKind.i64.wrap ((k:Int)+1)=(k:Int)+1:= IntWalk.i64_in _ ⟨by omega,by omega⟩;obtain⟨b,o,rfl,_⟩:=hr.at hk;have k0:(0:Int)≤(k:Int):=o_;have k1:(k:Int)≤(c:Int):=o_;have k2:(0:Int)≤(k:Int)+1:= o_;have k3:(k:Int)+1≤ (ts.length:Int):=o_;have k4:((k:Int)+1).toNat=k+ 1:=o_;go_still_tail 8,k_
  change wpList _ _ _ _ _ w2.drew
  clear k0 k1 k2 k3 k4 YA;have hr2:dK w2.drew (some ⟨b,o,none⟩) ts:=hr.below hb.drew;have htl:=hr2.tail (k:=k+ 1) hnc;have di:=Can.full (B:=w.heap.size) (e:=75) (size:=5) (n:=k) (hr2.take k) (by rw[dK.length,List.length_take];congr 1;omega) (bD o_);generalize(if c=k+ 1 then some (⟨b,o,none⟩:Addr)else some ⟨b,o+(k+1)*5,none⟩)=ad at htl ⊢;refine dU eI rfl _ _ rfl w.heap.size _ k k _ rfl di ad (ts.length-(k+1)) _ ((ts.drop (k+1)).flatMap aj.cells) rfl (by rw[dK.length,List.length_drop]) htl (qc _) o_ hb.size ?_;intro a' c' w3 fc _ hb3 kV;have hlen:k+ (ts.length-(k+1))=(cw id ts).length:=by rw[HW.out];simp;omega
  have HL:=h_ hlen;clear hlen hr2 htl di;go_wp2_with fail;go_returns;have cE:cg w.heap.size (some ⟨b,o,none⟩) a':=by
   by_cases h0:0< ts.length-(k+1)
   ·exact cg.own (kV.1 h0) n_
   ·rw[(kV.2 o_).1];exact cg.self _ _
  refine⟨a',c',by rw[HL.out];rfl,by rw[←HL.out];exact fc.le,fc.none d_,cE,?_,(hb.drew).trans hb3⟩;have h3:=fc.row;rw[←List.flatMap_append,←HW.out]at h3;exact h3
end Go.Proofs.YtfdmhpohfjbpfaaGreat
