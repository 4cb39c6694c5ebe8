import Derived.Laws.Externs
import Derived.Lib.Overlaps
import Derived.Lib.AppendZerosOnto
import Derived.Deep.RegionHeld3
import Derived.WalkSpells
import Derived.Test.YtoeofkcpclfnhaaGreatSr01
set_option linter.unusedVariables false
set_option linter.unusedSimpArgs false
namespace Go.Proofs.YtoeofkcpclfnhaaGreat
open Go.ChangeShapes Go.WideShapes Go.ChangeAt Go.RowKit
set_option maxRecDepth 100000
set_option maxHeartbeats 16000000
structure Nact where
 do_:Int
 K:Int
 nw:Int
 set:UInt8
abbrev Nact.cells(t:Nact):List Value:=[.int .i64 t.do_,.int .i64 t.K,.int .i64 t.nw,B t.set]
def layNact:Lay Tryz.prog 50 Nact:=Lay.struct Nact.cells 4 32 (fun _=>rfl) d_ d_ (fun x u hu=>by simp at hu;rcases hu with h|h| h|h<;>subst h<;>rfl) k_ _ Tryz.underlying50 rfl
theorem open_nact{H:Type}{enc:TypeId× Value→H}{w:World}{cs:List Value}(h:Rd enc Tryz.prog w 50 cs):∃x: Nact,cs=x.cells:= by
 obtain⟨hl,hf⟩:=h.struct Tryz.underlying50;have hn:Tryz.prog.cellsOf 50=4:= k_;have z_int:Tryz.prog.cellsOf 3=1:= k_;have z_u8:Tryz.prog.cellsOf 5=1:= k_;rw[hn]at hl
 match cs,hl with
 |[v0,v1,v2,v3],_=>
  have f0:Rd enc Tryz.prog w 3 ((([v0,v1,v2,v3]:List Value).drop 0).take (Tryz.prog.cellsOf 3)):=hf 0 _ rfl;rw[z_int]at f0;replace f0:Rd enc Tryz.prog w 3 [v0]:=f0;obtain⟨x0,e0,-⟩:=f0.int Tryz.underlying3;have f1:Rd enc Tryz.prog w 3 ((([v0,v1,v2,v3]:List Value).drop 1).take (Tryz.prog.cellsOf 3)):=hf 1 _ rfl;rw[z_int]at f1;replace f1:Rd enc Tryz.prog w 3 [v1]:=f1;obtain⟨x1,e1,-⟩:=f1.int Tryz.underlying3;have f2:Rd enc Tryz.prog w 3 ((([v0,v1,v2,v3]:List Value).drop 2).take (Tryz.prog.cellsOf 3)):=hf 2 _ rfl;rw[z_int]at f2;replace f2:Rd enc Tryz.prog w 3 [v2]:=f2;obtain⟨x2,e2,-⟩:=f2.int Tryz.underlying3;have f3:Rd enc Tryz.prog w 5 ((([v0,v1,v2,v3]:List Value).drop 3).take (Tryz.prog.cellsOf 5)):=hf 3 _ rfl;rw[z_u8]at f3;replace f3:Rd enc Tryz.prog w 5 [v3]:=f3;obtain⟨x3,e3,w3⟩:=f3.int Tryz.underlying5;obtain⟨s,rfl⟩:∃s: UInt8,x3=(s.toNat:Int):=⟨UInt8.ofNat x3.toNat,by have:=bounds_u8 w3;rw[UInt8.toNat_ofNat'];omega⟩;simp only[List.cons.injEq,and_true]at e0 e1 e2 e3;subst e0;subst e1;subst e2;subst e3;exact⟨⟨x0,x1,x2,s⟩,rfl⟩
theorem open_nacts{H:Type}{enc:TypeId× Value→H}{w:World}{a:Option Addr}{len cap:Nat}(h:Rd enc Tryz.prog w 22 [.slice a len cap]):
 ∃ts: List Nact,ts.length=len∧ len≤cap∧ cap≤maxLen∧ (a=none→ cap=0)∧LRow layNact w a ts:=by
 obtain⟨xs,h1,h2,h3,_,h5,_,hr⟩:=Rd.rows (α:=Nact) (cells:=Nact.cells) (size:=4) (good:=fun _=>True) (fun _=>rfl) d_ Tryz.underlying22 k_ (fun cs hcs=>by obtain⟨x,hx⟩:=open_nact hcs;exact⟨x,hx,trivial⟩) h;exact⟨xs,h1,h2,h3,h5,hr⟩
section
variable {P:Program} {e:TypeId} {α:Type}
theorem wpList_app1{ops:Array Oper}{rest:List Oper}{op:Oper}{ac:Act}{w:World}{cs:Array Value}{te:TypeId}{Q:Exit→ Act→World→ Prop}(L:Lay P e α){t:TypeId}(ht:P.underlying t=some (.slice e))(hgd:op.guard= none)(s x:Operand)(ho:op.op= .call {callee:= .builtin .append,args:= #[s,x],argTypes:= #[t,t]})(B:Nat)(a:Option Addr)(n c:Nat)(xs:List α)(hs:ac.eval s= .slice a n c)(hown:w.ownsRow B e L.size (.slice a n c) n (xs.flatMap L.cells))(y:α)(hcs:cs.toList= L.cells y)(hx:ac.eval x= .slice (some ⟨w.heap.size,0,none⟩) 1 1)(hby:(n+1)*L.bytes≤ 140737488355328)(hB:B≤ w.heap.size)(h:∀a' c' w',w'.ownsRow B e L.size (.slice a' (n+1) c') (n+1) ((xs++[y]).flatMap L.cells)→Below B w w'→wpList P ops Q rest (ac.put op.dst (.slice a' (n+1) c')) w'):wpList P ops Q (op::rest) ac (w.alloc (.cells cs te)):=by
 refine wpList_app (L.elem ht) hgd s x ho B (.slice a n c) n _ hs (hown.alloc _) (some ⟨w.heap.size,0,none⟩) 1 1 (L.cells y) hx (by rw[L.len,Nat.one_mul]) (by rw[←hcs];exact Row.new _ _ _ _) (L.one y) hby (Nat.le_trans hB (by simp)) ?_;intro a' c' w' ho2 hg2;refine h a' c' w' ?_ (Below.app ((Below.refl B w).alloc hB _) (hown.alloc _) hg2 (Nat.le_trans hB (by simp)));rw[List.flatMap_append,List.flatMap_cons,List.flatMap_nil,List.append_nil];exact ho2
theorem wpList_load_as{ops:Array Oper}{rest:List Oper}{op:Oper}{a:Act}{w:World}{Q:Exit→ Act→World→ Prop}(L:Lay P e α)(hgd:op.guard= none)(x:Operand)(ho:op.op= .load e x)(b o:Nat)(hx:a.eval x= .pointer (some ⟨b,o,none⟩))(y:α)(v:Value)(hv:L.val y=v)(hc:w.rangeAt b o (L.cells y))(h:wpList P ops Q rest (a.put op.dst v) w):wpList P ops Q (op::rest) a w:=by
 subst hv;exact wpList_load_lay L hgd x ho b o hx y hc h
theorem box_there{w w':World}{cs:Array Value}{t:TypeId}(hb:Below (w.alloc (.cells cs t)).heap.size (w.alloc (.cells cs t)) w'):w'.there w.heap.size 0 cs.size:=
 there_below (there_new w cs t) hb (by simp)
theorem box_range{w w':World}{cs:List Value}{t:TypeId}(hb:Below (w.alloc (.cells cs.toArray t)).heap.size (w.alloc (.cells cs.toArray t)) w'):w'.rangeAt w.heap.size 0 cs:=fun j v hv=>by
 rw[Nat.zero_add,own_cells hb j,List.getElem?_toArray,hv]
theorem Can.alloc{w:World}{B:Nat}{t:TypeId}{size:Nat}{a:Option Addr}{n c:Nat}{xs:List Value}(h:Can w B t size a n c xs)(o:Obj):Can (w.alloc o) B t size a n c xs:=
 ⟨h.1,h.2.1,h.2.2.imp (fun⟨h1,h2⟩=>⟨h1,Row.alloc h2 o⟩) (fun h=>h.alloc o)⟩
end
theorem setCells_keep(g:Nat):∀(vs:List Value) (o:Nat) (w:World) (k:Nat),k≠g→ (w.setCells g o vs).heap[k]? =w.heap[k]?
 |[],_,_,_,_=>rfl
 |v:: vs,o,w,k,h=>by
  rw[World.setCells,setCells_keep g vs (o+1) _ k h];exact Below.heap_setCell _ _ _ _ (fun e=>h e)
theorem mid_alloc'{w w':World}{o:Obj}(hb:Below (w.alloc o).heap.size (w.alloc o) w'):Below w.heap.size w w':=((Below.refl w.heap.size w).alloc n_ o).trans (hb.mono (by simp))
structure Only(g:Nat)(w w':World):Prop where
 os:w'.os= w.os
 tape:w'.tape= w.tape
 output:w'.output= w.output
 size:w.heap.size≤ w'.heap.size
 block:∀k,k<w.heap.size→ k≠g→ w'.heap[k]? =w.heap[k]?
theorem Only.refl(g:Nat)(w:World):Only g w w:=⟨rfl,rfl,rfl,Nat.le_refl _,fun _ _ _=>rfl⟩
theorem Only.trans{g:Nat}{w w' w'':World}(h:Only g w w')(h2:Only g w' w''):Only g w w'':=
 ⟨h2.os.trans h.os,h2.tape.trans h.tape,h2.output.trans h.output,Nat.le_trans h.size h2.size,fun k h1 h3=>(h2.block k (Nat.lt_of_lt_of_le h1 h.size) h3).trans (h.block k h1 h3)⟩
theorem Only.of{g:Nat}{w w':World}(h:Below w.heap.size w w'):Only g w w':=⟨h.os,h.tape,h.output,h.size,fun k hk _=>h.block k hk⟩
theorem Only.next{g:Nat}{w w' w'':World}(h:Only g w w')(h2:Below w'.heap.size w' w''):Only g w w'':=h.trans (.of h2)
theorem Only.put{g:Nat}{w w' w'':World}(h:Only g w w')(h2:∀B,B≤g→ Below B w' w'')(hk:∀k,k≠g→ w''.heap[k]? =w'.heap[k]?):Only g w w'':=
 h.trans ⟨(h2 0 (Nat.zero_le _)).os,(h2 0 (Nat.zero_le _)).tape,(h2 0 (Nat.zero_le _)).output,(h2 0 (Nat.zero_le _)).size,fun k _ hne=>hk k hne⟩
theorem Only.below{g:Nat}{w w':World}(h:Only g w w'){B:Nat}(hB:B≤ g)(hs:B≤ w.heap.size):Below B w w':=⟨h.os,h.tape,h.output,h.size,fun k hk=>h.block k o_ o_⟩
structure Mid(B E:Nat)(w w':World):Prop where
 size:w.heap.size≤ w'.heap.size
 keep:∀k,B≤k→ k<E→ w'.heap[k]? =w.heap[k]?
theorem Mid.refl(B E:Nat)(w:World):Mid B E w w:=⟨Nat.le_refl _,fun _ _ _=>rfl⟩
theorem Mid.trans{B E:Nat}{w w' w'':World}(h:Mid B E w w')(h2:Mid B E w' w''):Mid B E w w'':=⟨Nat.le_trans h.size h2.size,fun k h1 h3=>(h2.keep k h1 h3).trans (h.keep k h1 h3)⟩
theorem Mid.below{B E E':Nat}{w w':World}(h:Below E' w w')(hE:E≤ E'):Mid B E w w':=⟨h.size,fun k _ h1=>h.block k o_⟩
theorem Mid.next{B E E':Nat}{w w' w'':World}(h:Mid B E w w')(h2:Below E' w' w'')(hE:E≤ E'):Mid B E w w'':=h.trans (.below h2 hE)
theorem Mid.setCell{B E:Nat}{w w':World}(h:Mid B E w w')(p:Addr)(v:Value)(hp:p.block< B∨E≤ p.block):Mid B E w (w'.setCell p v):=
 h.trans ⟨by simp,fun k h1 h2=>Below.heap_setCell _ _ _ _ o_⟩
theorem Mid.other{B E:Nat}{w w' w'':World}{g:Nat}(h:Mid B E w w')(hk:∀k,k≠g→ w''.heap[k]? =w'.heap[k]?)(hs:w''.heap.size= w'.heap.size)(hg:g< B∨E≤ g):Mid B E w w'':=
 h.trans ⟨by omega,fun k h1 h2=>hk k o_⟩
theorem Mid.drew{B E:Nat}{w w':World}(h:Mid B E w w'):Mid B E w w'.drew:=⟨h.size,h.keep⟩
theorem Mid.alloc{B E:Nat}{w w':World}(h:Mid B E w w')(hE:E≤ w'.heap.size)(o:Obj):Mid B E w (w'.alloc o):=h.trans (.below (b_.alloc n_ o) hE)
theorem Mid.up{B B' E:Nat}{w w':World}(h:Mid B E w w')(hB:B≤ B'):Mid B' E w w':=⟨h.size,fun k h1 h2=>h.keep k o_ h2⟩
theorem own_mid{w w':World}{B E B0:Nat}{e:TypeId}{size:Nat}{v:Value}{n:Nat}{xs:List Value}(h:w.ownsRow B0 e size v n xs)(hm:Mid B E w w')(hB:B≤ B0)(hE:w.heap.size≤ E):w'.ownsRow B0 e size v n xs:=by
 obtain⟨h1,h2⟩:=h;refine⟨h1,?_⟩;rcases h2 with h2|⟨g,cap,cur,h3,h4,h5,h6⟩
 ·exact .inl h2
 ·refine .inr ⟨g,cap,cur,h3,h4,?_,h6⟩;rw[hm.keep g o_ (by have:=(Array.getElem?_eq_some_iff.1 h5).1;omega)];exact h5
structure Box(w:World)(g:Nat)(cs:List Value):Prop where
 range:w.rangeAt g 0 cs
 there:w.there g 0 cs.length
theorem Box.cell{w:World}{g:Nat}{cs:List Value}(h:Box w g cs){j:Nat}{v:Value}(hj:cs[j]? =some v):w.cell? ⟨g,j,none⟩=some v:=by
 have:=h.range j v hj;rw[Nat.zero_add]at this;exact this
theorem Box.froz{w:World}{g:Nat}{cs:List Value}(h:Box w g cs){j:Nat}(hj:j< cs.length):w.frozen? ⟨g,j,none⟩=false:= by
 have:=(h.there j hj).2;rw[Nat.zero_add]at this;exact this
theorem Box.of_alloc{w w':World}{cs:List Value}{t:TypeId}(hb:Below (w.alloc (.cells cs.toArray t)).heap.size (w.alloc (.cells cs.toArray t)) w'):Box w' w.heap.size cs:=
 ⟨box_range hb,by have:=box_there hb;simpa using this⟩
theorem Box.of_alloc1{w w':World}{o:Obj}{cs:List Value}{t:TypeId}(hb:Below ((w.alloc o).alloc (.cells cs.toArray t)).heap.size ((w.alloc o).alloc (.cells cs.toArray t)) w'):Box w' (w.heap.size+1) cs:=by
 have:=Box.of_alloc hb;rw[World.size_alloc]at this;exact this
theorem Box.lt{w:World}{g:Nat}{cs:List Value}(h:Box w g cs)(h0:0< cs.length):g< w.heap.size:=World.block_lt_of_cell? w _ (h.cell (List.getElem?_eq_getElem h0))
theorem Box.block{w w':World}{g:Nat}{cs:List Value}(h:Box w g cs)(hg:w'.heap[g]? =w.heap[g]?):Box w' g cs:=
 ⟨fun j v hj=>by rw[World.cell?_of_block (w:=w) hg];exact h.range j v hj,fun j hj=>by
  have:=h.there j hj;refine⟨by rw[World.cell?_of_block (w:=w) hg];exact this.1,?_⟩;have h2:=this.2;simp only[World.frozen?]at h2 ⊢
  rw[hg];exact h2⟩
theorem Box.below{w w':World}{g:Nat}{cs:List Value}{B:Nat}(h:Box w g cs)(hb:Below B w w')(hg:g< B):Box w' g cs:=h.block (hb.block g hg)
theorem Box.next{w w':World}{g:Nat}{cs:List Value}(h:Box w g cs)(h0:0< cs.length)(hb:Below w.heap.size w w'):Box w' g cs:=h.below hb (h.lt h0)
theorem Box.drew{w:World}{g:Nat}{cs:List Value}(h:Box w g cs):Box w.drew g cs:=h.block rfl
theorem Box.set{w:World}{g i:Nat}{cs:List Value}(h:Box w g cs)(hi:i< cs.length)(v:Value):Box (w.setCell ⟨g,i,none⟩ v) g (cs.set i v):=by
 have hci:=h.cell (List.getElem?_eq_getElem hi);refine⟨fun j u hj=> ?_,fun j hj=> ?_⟩
 ·rw[Nat.zero_add];by_cases e:i= j
  ·subst e;rw[List.getElem?_set_self hi]at hj;rw[←hj];exact World.cell?_setCell_same _ _ _ hci
  ·rw[List.getElem?_set_ne e]at hj;rw[World.cell?_setCell_other w _ _ v (fun h=>e (congrArg Addr.off h))];exact h.cell hj
 ·rw[List.length_set]at hj;refine⟨?_,?_⟩
  ·rw[Nat.zero_add];by_cases e:i= j
   ·subst e;rw[World.cell?_setCell_same _ _ _ hci];rfl
   ·rw[World.cell?_setCell_other w _ _ v (fun h=>e (congrArg Addr.off h)),h.cell (List.getElem?_eq_getElem hj)];rfl
  ·rw[World.frozen?_setCell];exact(h.there j hj).2
theorem Box.far{w:World}{g:Nat}{cs:List Value}(h:Box w g cs){p:Addr}(hp:p.block≠ g)(v:Value):Box (w.setCell p v) g cs:=h.block (Below.heap_setCell _ _ _ _ (fun e=>hp e.symm))
section
variable {P:Program} {e:TypeId} {α:Type}
structure Wrote(g:Nat)(w w':World):Prop where
 below:∀B,B≤g→ Below B w w'
 size:w'.heap.size= w.heap.size
 keep:∀k,k≠g→ w'.heap[k]? =w.heap[k]?
theorem Box.wrote{w w':World}{g g':Nat}{cs:List Value}(h:Box w g cs)(hw:Wrote g' w w')(hne:g≠ g'):Box w' g cs:=h.block (hw.keep g hne)
theorem Mid.wrote{B E g:Nat}{w w' w'':World}(h:Mid B E w w')(hw:Wrote g w' w'')(hg:g< B∨E≤ g):Mid B E w w'':=h.other hw.keep hw.size hg
end
end Go.Proofs.YtoeofkcpclfnhaaGreat
namespace Go.Proofs.YtoeofkcpclfnhaaGreat
open Go
set_option maxHeartbeats 16000000
def Till(st:Nat)(l:Array Bool)(C:Prop):Prop:= l.getD st true=false→ C
section
variable {P:Program} {ops:Array Oper} {Q:Exit→ Act→World→ Prop} {md:Region.Mode} {S:Array Bool→World→ Prop}
def wpAnyL(P:Program)(md:Region.Mode)(ops:Array Oper)(Q:Exit→ Act→World→ Prop)(S:Array Bool→World→ Prop):Nat→ Array Bool→Act→ World→Prop
 |0,listed,a,w=>Region.ready md ops listed=[]∧Q .normal a w
 |fuel+ 1,listed,a,w=>
  (Region.ready md ops listed=[]→Q .normal a w)∧
  ∀i∈ Region.ready md ops listed,wpOp P ops Q i (fun a' w'=>S (listed.setIfInBounds i true) w'∧wpAnyL P md ops Q S fuel (listed.setIfInBounds i true) a' w') a w
theorem any_of_list:∀(fuel:Nat) (listed:Array Bool) (a:Act) (w:World),wpAnyL P md ops Q S fuel listed a w→wpAny P md ops Q fuel listed a w
 |0,_,_,_,h=>h
 |fuel+ 1,_,_,_,h=>⟨h.1,fun i hi=>wpOp_mono (fun a' w' h'=>any_of_list fuel _ a' w' h'.2) (h.2 i hi)⟩
abbrev NotYet(D:List Nat)(listed:Array Bool):Prop:= ∀d∈ D,listed.getD d true=false
def waitFor(md:Region.Mode)(ops:Array Oper)(i:Nat)(D:List Nat):Bool:=
 D.all fun d=>match ops[d]? with|some o=>o.after.any (fun e=>Region.binds md e&&(e.on==i|| D.contains e.on))|none=> false
theorem notYet_next{i j:Nat}{D:List Nat}{listed:Array Bool}(hw:waitFor md ops i D=true)(hi:listed.getD i true=false)(hD:NotYet D listed)(hj:j∈ Region.ready md ops listed):NotYet D (listed.setIfInBounds j true):=fun d hd=>by
 have hne:j≠ d:=by
  rintro rfl;obtain⟨_,o,ho,hall⟩:=mem_ready.1 hj;have h1:=(List.all_eq_true.1 hw) j hd;simp only[ho]at h1;obtain⟨e,he,h2⟩:∃e,e∈o.after∧ (Region.binds md e&&(e.on==i|| D.contains e.on))=true:= by
   obtain⟨n,hn,h1⟩:=Array.any_eq_true.1 h1;exact⟨_,Array.getElem_mem hn,h1⟩
  rw[Bool.and_eq_true,Bool.or_eq_true]at h2;have h3:=hall e he h2.1;have h4:listed.getD e.on true=false:= by
   rcases h2.2 with h|h
   ·have:e.on= i:=by simpa using h
    rw[this];exact hi
   ·exact hD _ (by simpa using h)
  rcases Nat.lt_or_ge e.on listed.size with h'|h'
  ·simp[h']at h3 h4;rw[h4]at h3;cases h3
  ·simp[Array.getElem?_eq_none h']at h3
 rw[getD_set_ne true hne];exact hD d hd
theorem list_first{i:Nat}{oi:Oper}{v:Value}(D:List Nat)(hi:ops[i]? =some oi)(hsel:∀(j:Nat) (o:Oper) cs b,ops[j]? =some o→o.op≠ .select cs b)(hQ:∀c a w,Q (.panic c) (a.put oi.dst v) w→Q (.panic c) a w)(hw:waitFor md ops i D=true)(hSi:∀l w,S (l.setIfInBounds i true) w→S l w):
 ∀(fuel:Nat) (listed:Array Bool) (a:Act) (w:World),
  (∀j oj,ops[j]? =some oj→j≠ i→listed.getD j true=false→ (∀e∈ oj.after,Region.binds md e=true→ e.on≠i)→oi.apart ops oj=true)→
  i∈Region.ready md ops listed→NotYet D listed→YieldsIf P ops (fun w=>∃l,NotYet D l∧S l w) oi v a→S listed w→
  wpAnyL P md ops Q S fuel (listed.setIfInBounds i true) (a.put oi.dst v) w→(S (listed.setIfInBounds i true) w)→wpAnyL P md ops Q S (fuel+1) listed a w:=by
 intro fuel
 induction fuel with
 |zero=>
  intro listed a w _ hr hD hy hS H hSn;refine⟨fun h=>(by rw[h]at hr;cases hr),fun j hj=> ?_⟩;by_cases hji:j= i
  ·subst hji;exact hy.wpOp (w:=w) hi ⟨listed,hD,hS⟩ ⟨hSn,H⟩
  ·have:=ready_mono hj hji;rw[H.1]at this;cases this
 |succ fuel ih=>
  intro listed a w hfree hr hD hy hS H hSn;refine⟨fun h=>(by rw[h]at hr;cases hr),fun j hj=> ?_⟩;by_cases hji:j= i
  ·subst hji;exact hy.wpOp (w:=w) hi ⟨listed,hD,hS⟩ ⟨hSn,H⟩
  ·have h1:=H.2 j (ready_mono hj hji);obtain⟨hjun,oj,hoj,hall⟩:=mem_ready.1 hj;have hiun:=(mem_ready.1 hr).1;have hnot:∀e∈ oj.after,Region.binds md e=true→ e.on≠i:= fun e he hb heq=>by
    have h1:=hall e he hb;rw[heq]at h1;rcases Nat.lt_or_ge i listed.size with h'|h'
    ·simp[h']at hiun h1;rw[hiun]at h1;cases h1
    ·simp[Array.getElem?_eq_none h']at h1
   have h2:=wpOp_putIf hoj (hfree j oj hoj hji hjun hnot) (fun cs b=>hsel i oi cs b hi) (fun cs b=>hsel j oj cs b hoj) hQ hy h1;have hfree':∀k ok,ops[k]? =some ok→k≠ i→(listed.setIfInBounds j true).getD k true=false→
    (∀e∈ ok.after,Region.binds md e=true→ e.on≠i)→oi.apart ops ok=true:= fun k ok hk hki hun hno=>by
    refine hfree k ok hk hki ?_ hno;by_cases hjk:j= k
    ·subst hjk;exact hjun
    ·rw[getD_set_ne true hjk]at hun;exact hun
   have hcomm:(listed.setIfInBounds i true).setIfInBounds j true=(listed.setIfInBounds j true).setIfInBounds i true:=Array.setIfInBounds_comm _ _ (Ne.symm hji);refine wpOp_mono (fun a' w' h3=> ?_) h2;have h4:=h3.2.1;have h5:=h3.2.2;rw[hcomm]at h4 h5;have h6:=hSi _ _ h4;exact⟨h6,ih (listed.setIfInBounds j true) a' w' hfree' (ready_mono hr (Ne.symm hji)) (notYet_next hw hiun hD hj) h3.1 h6 h5 h4⟩
theorem wpAnyL_take(D:List Nat){i:Nat}{oi:Oper}{v:Value}{fuel:Nat}{listed:Array Bool}{a:Act}{w:World}(hi:ops[i]? =some oi)(hs:Region.noSelect ops=true)(hf:Region.free md ops listed i=true)(hr:(Region.ready md ops listed).contains i=true)(hw:waitFor md ops i D=true)(hD:(D.all fun d=> !(listed.getD d true))=true)(hQ:∀c a w,Q (.panic c) (a.put oi.dst v) w→Q (.panic c) a w)(hSi:∀l w,S (l.setIfInBounds i true) w↔S l w)(hy:YieldsIf P ops (fun w=>∃l,NotYet D l∧S l w) oi v a)(hS:S listed w)(h:wpAnyL P md ops Q S fuel (listed.setIfInBounds i true) (a.put oi.dst v) w):wpAnyL P md ops Q S (fuel+1) listed a w:=
 list_first D hi (Region.noSelect_spec hs) hQ hw (fun l w=>(hSi l w).1) fuel listed a w (Region.free_spec hi hf) (by simpa using hr) (fun d hd=>by have:=(List.all_eq_true.1 hD) d hd;simpa using this) hy hS h ((hSi _ _).2 hS)
theorem wpAnyL_done{listed:Array Bool}{a:Act}{w:World}(hr:Region.ready md ops listed=[])(h:Q .normal a w):∀fuel,wpAnyL P md ops Q S fuel listed a w
 |0=> ⟨hr,h⟩
 |_+ 1=>⟨fun _=>h,by rw[hr];simp⟩
theorem wp_region_list(S:Array Bool→World→ Prop){id:Nat}{a:Act}{w:World}(hm:P.follows .mixedOrders=true)(h:wpAnyL P .any ops Q S ops.size (Array.replicate ops.size false) a w.drew):(Code.region id ops true).wp P Q a w:=
 wp_region_any hm (any_of_list _ _ _ _ h)
def Cs(w:World)(g:Nat):Nat→ List Value→Prop
 |_,[]=>True
 |i,v::vs=> w.cell? ⟨g,i,none⟩=some v∧Cs w g (i+1) vs
theorem Cs.of{w:World}{g:Nat}:∀ {cs:List Value} {i:Nat},(∀j v,cs[j]? =some v→w.cell? ⟨g,i+j,none⟩=some v)→Cs w g i cs
 |[],_,_=>trivial
 |v:: vs,i,h=>⟨h 0 v rfl,Cs.of fun j x hx=>by rw[show i+1+ j=i+ (j+1) by omega];exact h (j+1) x hx⟩
def wpAnyS(P:Program)(md:Region.Mode)(ops:Array Oper)(Q:Exit→ Act→World→ Prop)(S:Array Bool→World→ Prop)(fuel:Nat)(listed:Array Bool)(a:Act)(w:World):Prop:= S listed w→wpAnyL P md ops Q S fuel listed a w
theorem toS{fuel:Nat}{listed:Array Bool}{a:Act}{w:World}(hS:S listed w)(h:wpAnyS P md ops Q S fuel listed a w):wpAnyL P md ops Q S fuel listed a w:=h hS
theorem ofS{fuel:Nat}{listed:Array Bool}{a:Act}{w:World}(h:wpAnyL P md ops Q S fuel listed a w):wpAnyS P md ops Q S fuel listed a w:=fun _=>h
theorem tkq(i:Nat){oi:Oper}{v:Value}{fuel:Nat}{listed l':Array Bool}{a a':Act}{w:World}(h:wpAnyS P md ops Q S fuel l' a' w)(hi:ops[i]? =some oi:=by exact rfl)(hy:YieldsIf P ops (fun w=>∃l,NotYet [] l∧S l w) oi v a:=by exact Or.inl ⟨by rfl,by(rintro w ⟨l,hD,hSw⟩;(try dsimp only at hSw);(try simp only[Cs,and_true,Nat.reduceAdd]at hSw);clear hD;go_simp;rfl)⟩)(hs:Region.noSelect ops=true:= by kernel_rfl)(hf:Region.free md ops listed i=true:= by kernel_rfl)(hr:(Region.ready md ops listed).contains i=true:= by kernel_rfl)(hQ:∀c a w,Q (.panic c) (a.put oi.dst v) w→Q (.panic c) a w:=by exact fun _ _ _ h=>h)(hSi:∀l w,S (l.setIfInBounds i true) w↔S l w:=by exact fun _ _=>Iff.rfl)(ha:a.put oi.dst v=a':= by((try simp only[Act.put,List.setIfInBounds_toArray,List.set_cons_zero,List.set_cons_succ,List.getElem_toArray,List.getElem_cons_zero,List.getElem_cons_succ]);exact rfl))(hl:listed.setIfInBounds i true=l':= by((try simp only[List.setIfInBounds_toArray,List.set_cons_zero,List.set_cons_succ]);exact rfl)):wpAnyS P md ops Q S (fuel+1) listed a w:=
 fun hS=>wpAnyL_take [] hi hs hf hr rfl rfl hQ hSi hy hS (by rw[ha,hl];exact h (hl▸(hSi _ _).2 hS))
theorem till_set{i st:Nat}{l:Array Bool}{C:Prop}(h:i≠ st):Till st (l.setIfInBounds i true) C↔Till st l C:=by unfold Till;rw[getD_set_ne true h]
theorem ttq(D:List Nat)(i:Nat){oi:Oper}{v:Value}{fuel:Nat}{listed l':Array Bool}{a a':Act}{w:World}(h:wpAnyS P md ops Q S fuel l' a' w)(hi:ops[i]? =some oi:=by exact rfl)(hy:YieldsIf P ops (fun w=>∃l,NotYet D l∧S l w) oi v a:=by exact Or.inl ⟨by rfl,by(rintro w ⟨l,hD,hSw⟩;(try dsimp only at hSw);(try simp only[Cs,and_true,Nat.reduceAdd]at hSw);(try have hC0:=hSw.2 (hD _ (List.mem_singleton_self _)));replace hSw:=hSw.1;clear hD;go_simp;rfl)⟩)(hs:Region.noSelect ops=true:= by kernel_rfl)(hf:Region.free md ops listed i=true:= by kernel_rfl)(hr:(Region.ready md ops listed).contains i=true:= by kernel_rfl)(hw:waitFor md ops i D=true:= by kernel_rfl)(hD:(D.all fun d=> !(listed.getD d true))=true:= by kernel_rfl)(hQ:∀c a w,Q (.panic c) (a.put oi.dst v) w→Q (.panic c) a w:=by exact fun _ _ _ h=>h)(hSi:∀l w,S (l.setIfInBounds i true) w↔S l w:=by (intro l w;first|exact and_congr Iff.rfl (till_set d_)|exact and_congr Iff.rfl (and_congr (till_set d_) (till_set d_))|exact and_congr Iff.rfl (and_congr (till_set d_) (and_congr (till_set d_) (till_set d_)))|exact and_congr Iff.rfl (and_congr (till_set d_) (and_congr (till_set d_) (and_congr (till_set d_) (till_set d_))))))(ha:a.put oi.dst v=a':= by((try simp only[Act.put,List.setIfInBounds_toArray,List.set_cons_zero,List.set_cons_succ,List.getElem_toArray,List.getElem_cons_zero,List.getElem_cons_succ]);exact rfl))(hl:listed.setIfInBounds i true=l':= by((try simp only[List.setIfInBounds_toArray,List.set_cons_zero,List.set_cons_succ]);exact rfl)):wpAnyS P md ops Q S (fuel+1) listed a w:=
 fun hS=>wpAnyL_take D hi hs hf hr hw hD hQ hSi hy hS (by rw[ha,hl];exact h (hl▸(hSi _ _).2 hS))
def StepS(P:Program)(md:Region.Mode)(ops:Array Oper)(Q:Exit→ Act→World→ Prop)(S:Array Bool→World→ Prop)(fuel:Nat)(listed:Array Bool)(a:Act)(w:World)(i:Nat)(o:Oper):Prop:=
 ∀K: Act→World→ Prop,Shut (∀a w {l' a'},S (listed.setIfInBounds i true) w→wpAnyS P md ops Q S fuel l' a' w→(ha:a= a':=by ((try simp only[Act.put,List.setIfInBounds_toArray,List.set_cons_zero,List.set_cons_succ,List.getElem_toArray,List.getElem_cons_zero,List.getElem_cons_succ]);exact rfl))→(hl:listed.setIfInBounds i true=l':= by((try simp only[List.setIfInBounds_toArray,List.set_cons_zero,List.set_cons_succ]);exact rfl))→K a w)→if Region.wanted o (yielded ops a.tmps)=true then Oper.wp P o a w K Q else K (a.put o.dst undef) w
theorem StepS.wp{fuel:Nat}{listed:Array Bool}{a:Act}{w:World}{i:Nat}{o:Oper}(h:StepS P md ops Q S fuel listed a w i o)(ho:ops[i]? =some o):
 wpOp P ops Q i (fun a' w'=>S (listed.setIfInBounds i true) w'∧wpAnyL P md ops Q S fuel (listed.setIfInBounds i true) a' w') a w:=
 wpOp_step ho (fun K' hK=>h K' (fun a w l' a' hS hW ha hl=>hK a w ⟨hS,by subst ha;subst hl;exact hW hS⟩))
theorem loq(i:Nat){o:Oper}{fuel:Nat}{listed:Array Bool}{a:Act}{w:World}(h:StepS P md ops Q S fuel listed a w i o)(ho:ops[i]? =some o:=by exact rfl)(hr:Region.ready md ops listed=[i]:=by kernel_rfl):
 wpAnyL P md ops Q S (fuel+1) listed a w:=by
 refine⟨fun h0=>(by rw[hr]at h0;cases h0),fun j hj=> ?_⟩;rw[hr]at hj;obtain rfl:=List.mem_singleton.1 hj;exact h.wp ho
theorem soq(i:Nat){o:Oper}{fuel:Nat}{listed:Array Bool}{a:Act}{w:World}(h:StepS P md ops Q S fuel listed a w i o)(ho:ops[i]? =some o:=by exact rfl)(hr:Region.ready md ops listed=[i]:=by kernel_rfl):
 wpAnyS P md ops Q S (fuel+1) listed a w:=ofS (loq i h ho hr)
theorem l2q(i j:Nat){o o2:Oper}{fuel:Nat}{listed:Array Bool}{a:Act}{w:World}(h:StepS P md ops Q S fuel listed a w i o)(h2:StepS P md ops Q S fuel listed a w j o2)(ho:ops[i]? =some o:=by exact rfl)(ho2:ops[j]? =some o2:=by exact rfl)(hr:Region.ready md ops listed=[i,j]:=by kernel_rfl):
 wpAnyL P md ops Q S (fuel+1) listed a w:=by
 refine⟨fun h0=>(by rw[hr]at h0;cases h0),fun k hk=> ?_⟩;rw[hr]at hk;rcases List.mem_cons.1 hk with rfl|hk
 ·exact h.wp ho
 ·obtain rfl:=List.mem_singleton.1 hk;exact h2.wp ho2
theorem s2q(i j:Nat){o o2:Oper}{fuel:Nat}{listed:Array Bool}{a:Act}{w:World}(h:StepS P md ops Q S fuel listed a w i o)(h2:StepS P md ops Q S fuel listed a w j o2)(ho:ops[i]? =some o:=by exact rfl)(ho2:ops[j]? =some o2:=by exact rfl)(hr:Region.ready md ops listed=[i,j]:=by kernel_rfl):
 wpAnyS P md ops Q S (fuel+1) listed a w:=ofS (l2q i j h h2 ho ho2 hr)
theorem l3q(i j k:Nat){o o2 o3:Oper}{fuel:Nat}{listed:Array Bool}{a:Act}{w:World}(h:StepS P md ops Q S fuel listed a w i o)(h2:StepS P md ops Q S fuel listed a w j o2)(h3:StepS P md ops Q S fuel listed a w k o3)(ho:ops[i]? =some o:=by exact rfl)(ho2:ops[j]? =some o2:=by exact rfl)(ho3:ops[k]? =some o3:=by exact rfl)(hr:Region.ready md ops listed=[i,j,k]:=by kernel_rfl):
 wpAnyL P md ops Q S (fuel+1) listed a w:=by
 refine⟨fun h0=>(by rw[hr]at h0;cases h0),fun q hk=> ?_⟩;rw[hr]at hk;rcases List.mem_cons.1 hk with rfl|hk
 ·exact h.wp ho
 ·rcases List.mem_cons.1 hk with rfl|hk
  ·exact h2.wp ho2
  ·obtain rfl:=List.mem_singleton.1 hk;exact h3.wp ho3
theorem s3q(i j k:Nat){o o2 o3:Oper}{fuel:Nat}{listed:Array Bool}{a:Act}{w:World}(h:StepS P md ops Q S fuel listed a w i o)(h2:StepS P md ops Q S fuel listed a w j o2)(h3:StepS P md ops Q S fuel listed a w k o3)(ho:ops[i]? =some o:=by exact rfl)(ho2:ops[j]? =some o2:=by exact rfl)(ho3:ops[k]? =some o3:=by exact rfl)(hr:Region.ready md ops listed=[i,j,k]:=by kernel_rfl):
 wpAnyS P md ops Q S (fuel+1) listed a w:=ofS (l3q i j k h h2 h3 ho ho2 ho3 hr)
theorem sdq{fuel:Nat}{listed:Array Bool}{a:Act}{w:World}(h:Q .normal a w)(hr:Region.ready md ops listed=[]:=by kernel_rfl):wpAnyS P md ops Q S fuel listed a w:=ofS (wpAnyL_done hr h _)
theorem wrq(S:Array Bool→World→ Prop){id:Nat}{a:Act}{w:World}(h:wpAnyL P .any ops Q S ops.size (Array.replicate ops.size false) a w.drew)(hm:P.follows .mixedOrders=true:= by kernel_rfl):(Code.region id ops true).wp P Q a w:=wp_region_list S hm h
end
end Go.Proofs.YtoeofkcpclfnhaaGreat
namespace Go.Proofs.YtoeofkcpclfnhaaGreat
set_option maxHeartbeats 16000000
def beVal(l:List UInt8):Nat:= l.foldl (fun a b=>a* 256+b.toNat) 0
def u64(n:Int):Nat:= (n%18446744073709551616).toNat
def i64(u:Nat):Int:= if u<9223372036854775808 then u else u-18446744073709551616
def InI(n:Int):Prop:= -9223372036854775808≤ n∧n< 9223372036854775808
theorem i64_in{u:Nat}(h:u< 18446744073709551616):InI (i64 u):=by
 unfold i64 InI
 split<;>omega
def num8(l:List UInt8):Int:= i64 (beVal l)
abbrev Got(α:Type):=Except Nat (α×Nat)
def bindP{α β:Type}(x:Got α)(f:α→ Nat→Got β):Got β:=match x with| .error e=> .error e| .ok (a,q)=>f a q
def needP(k:Nat)(l:List UInt8)(p:Nat):Got (List UInt8):=if l.length-p< k then .error l.length else .ok ((l.drop p).take k,p+k)
def numP(l:List UInt8)(p:Nat):Got Int:=bindP (needP 8 l p) fun b q=> .ok (num8 b,q)
def countP(size:Nat)(l:List UInt8)(p:Nat):Got Nat:=bindP (numP l p) fun n q=>if n<0∨ n>((l.length-q)/size: Nat)then .error p else .ok (n.toNat,q)
structure WEnt where
 term:Int
 kind:Int
 stamp:Int
 set:UInt8
 data:List UInt8
 deriving DecidableEq
structure WMsg where
 kind:Int
 src:Int
 dst:Int
 term:Int
 index:Int
 last:Int
 commit:Int
 ok:Bool
 entries:List WEnt
 sindex:Int
 sterm:Int
 sset:UInt8
 sdata:List UInt8
 data:List UInt8
 deriving DecidableEq
def mayE(t:Int)(x:WEnt):Bool:= decide (1≤x.term∧ t≤x.term∧ 0≤x.stamp∧ 0≤x.kind∧ x.kind≤2∧ (x.kind=1↔ x.set.toNat≠0)∧(x.kind=2∨ x.data.length=0)∧x.data.length≤ 16384)
def lastT:Int→ List WEnt→Int
 |t,[]=>t
 |_,x::es=> lastT x.term es
def goodEs:Int→ List WEnt→Bool
 |_,[]=>true
 |t,x::es=> mayE t x&&goodEs x.term es
theorem lastT_append(xs ys:List WEnt):∀t,lastT t (xs++ys)=lastT (lastT t xs) ys:=by
 induction xs with
 |nil=> exact fun _=>rfl
 |cons x xs ih=>exact fun t=>ih x.term
theorem goodEs_append(xs ys:List WEnt):∀t,goodEs t (xs++ys)=(goodEs t xs&&goodEs (lastT t xs) ys):=by
 induction xs with
 |nil=> exact fun _=>rfl
 |cons x xs ih=>intro t;show(mayE t x&&goodEs x.term (xs++ys))=_;rw[ih];simp[goodEs,lastT,Bool.and_assoc]
theorem lastT_take{t:Int}{es:List WEnt}{k:Nat}(h:k< es.length):lastT t (es.take (k+1))=es[k].term:=by
 rw[List.take_succ_eq_append_getElem h,lastT_append];rfl
theorem goodEs_take{t:Int}{es:List WEnt}{k:Nat}(h:k< es.length):goodEs t (es.take (k+1))=(goodEs t (es.take k)&&mayE (lastT t (es.take k)) es[k]):=by
 rw[List.take_succ_eq_append_getElem h,goodEs_append];simp[goodEs]
theorem goodEs_not{t:Int}{es:List WEnt}{k:Nat}(h:k< es.length)(hm:mayE (lastT t (es.take k)) es[k]=false):goodEs t es=false:= by
 have e:es= es.take (k+1)++es.drop (k+1):=(List.take_append_drop _ _).symm;rw[e,goodEs_append,goodEs_take h,hm];simp
def headR(b t:Int)(n:Nat):Bool:= decide (0≤b∧ n≤4096∧ b≤1099511627776- (n:Int)∧0≤ t∧(b=0↔ t=0))
def okR(b t:Int)(es:List WEnt):Bool:= headR b t es.length&&goodEs t es
theorem okR_head{b t:Int}{es:List WEnt}(h:headR b t es.length=false):okR b t es=false:= by unfold okR;rw[h];rfl
theorem okR_iff{b t:Int}{es:List WEnt}:okR b t es=true↔ headR b t es.length=true∧ goodEs t es=true:= by unfold okR;rw[Bool.and_eq_true]
theorem headR_iff{b t:Int}{n:Nat}:headR b t n=true↔ (0≤b∧ n≤4096∧ b≤1099511627776- (n:Int)∧0≤ t∧(b=0↔ t=0)):=by unfold headR;exact decide_eq_true_iff
theorem headR_not{b t:Int}{n:Nat}:headR b t n=false↔ ¬(0≤b∧ n≤4096∧ b≤1099511627776- (n:Int)∧0≤ t∧(b=0↔ t=0)):=by unfold headR;exact decide_eq_false_iff_not
def terms(t:Int)(es:List WEnt):List Int:=t:: es.map WEnt.term
theorem terms_last(t:Int)(es:List WEnt):lastT t es=(terms t es).getD es.length 0:=by
 induction es generalizing t with
 |nil=> rfl
 |cons x es ih=>show lastT x.term es=(terms x.term es).getD es.length 0;exact ih x.term
theorem terms_succ{t:Int}{es:List WEnt}{k:Nat}(h:k< es.length):(terms t es).getD (k+1) 0=es[k].term:=by
 show(es.map WEnt.term).getD k 0=_
 rw[List.getD_eq_getElem?_getD,List.getElem?_map,List.getElem?_eq_getElem h];rfl
theorem lastT_nil{t:Int}{es:List WEnt}(h:es.length= 0):lastT t es=t:= by
 rw[List.length_eq_zero_iff.1 h];rfl
theorem lastT_get{t:Int}{es:List WEnt}(h:0< es.length):lastT t es=(es[es.length-1]'o_).term:=by
 rw[terms_last];have e:es.length= (es.length-1)+1:= o_
 conv=>lhs;rw[e]
 exact terms_succ o_
def termR(b t:Int)(es:List WEnt)(i:Int):Int:= if b≤i∧ i≤b+ es.length then(terms t es).getD (i-b).toNat 0 else 0
def hasR(b:Int)(es:List WEnt)(i:Int):Bool:= decide (b≤i∧ i≤b+ es.length)
end Go.Proofs.YtoeofkcpclfnhaaGreat
namespace Go.Proofs.YtoeofkcpclfnhaaGreat
open Go.ChangeShapes Go.WideShapes Go.ChangeAt Go.RowKit
set_option maxRecDepth 100000
set_option maxHeartbeats 16000000
abbrev RwE:=WEnt× (Option Addr×Nat)
abbrev cellsRw(x:RwE):List Value:=[.int .i64 x.1.term,.int .i8 x.1.kind,.int .i64 x.1.stamp,B x.1.set,.slice x.2.1 x.1.data.length x.2.2]
abbrev ents(es:List RwE):List WEnt:=es.map Prod.fst
theorem rowsAt{α:Type}{cells:α→ List Value}{size:Nat}(hs:∀x,(cells x).length=size){w:World}{a:Option Addr}{xs:List α}(h:Row w a (xs.flatMap cells)){k:Nat}(hk:k< xs.length)(h0:0< size):∃b o,a=some ⟨b,o,none⟩∧∀r,r<size→ w.cell? ⟨b,o+k* size+r,none⟩=(cells xs[k])[r]?:=by
 have hle:k* size+size≤ xs.length*size:= by rw[←Nat.succ_mul];exact Nat.mul_le_mul_right _ hk
 have hl:(xs.flatMap cells).length=xs.length* size:=flatMap_len hs xs;have h2:k* size<(xs.flatMap cells).length:=o_;obtain⟨b,o,ha,hc⟩:=Row.at h h2;refine⟨b,o,ha,fun r hr=> ?_⟩;have h3:k* size+r< (xs.flatMap cells).length:=o_;have h1:=flatMap_at (cells:=cells) hs (xs:=xs) (i:=k) hr;rw[List.getElem?_eq_getElem hk,Option.bind_some]at h1;rw[Nat.add_assoc,hc _ h3,←h1,List.getElem?_eq_getElem h3]
structure EntAt(w:World)(b q:Nat)(x:WEnt)(p:Option Addr×Nat):Prop where
 c0:w.cell? ⟨b,q,none⟩=some (.int .i64 x.term)
 c1:w.cell? ⟨b,q+1,none⟩=some (.int .i8 x.kind)
 c2:w.cell? ⟨b,q+2,none⟩=some (.int .i64 x.stamp)
 c3:w.cell? ⟨b,q+3,none⟩=some (B x.set)
 c4:w.cell? ⟨b,q+4,none⟩=some (.slice p.1 x.data.length p.2)
theorem entAt{w:World}{a:Option Addr}{es:List RwE}(h:Row w a (es.flatMap cellsRw)){k:Nat}(hk:k< es.length):∃b o,a=some ⟨b,o,none⟩∧EntAt w b (o+k* 5) es[k].1 es[k].2:=by
 obtain⟨b,o,ha,hc⟩:=rowsAt (size:=5) (cells:=cellsRw) (fun _=>rfl) h hk d_;exact⟨b,o,ha,hc 0 d_,hc 1 d_,hc 2 d_,hc 3 d_,hc 4 d_⟩
theorem may_t{t:Int}{x:WEnt}(h:1≤ x.term∧t≤ x.term∧0≤ x.stamp∧0≤ x.kind∧x.kind≤ 2∧(x.kind=1↔ x.set.toNat≠0)∧(x.kind=2∨ x.data.length=0)∧x.data.length≤ 16384):mayE t x=true:= decide_eq_true h
theorem may_f{t:Int}{x:WEnt}(h:¬(1≤x.term∧ t≤x.term∧ 0≤x.stamp∧ 0≤x.kind∧ x.kind≤2∧ (x.kind=1↔ x.set.toNat≠0)∧(x.kind=2∨ x.data.length=0)∧x.data.length≤ 16384)):mayE t x=false:= decide_eq_false h
def RetMay(w:World)(r:Bool)(e:Ending)(w':World):Prop:= e= .returned (.bool r)∧∃n,w'=w.drewN n
def RetSame(w:World)(r:Bool)(e:Ending)(w':World):Prop:= e= .returned (.bool r)∧Below w.heap.size w w'
theorem ret_may{w w':World}{r b:Bool}(h:r= b)(n:Nat)(hw:w'= w.drewN n):RetMay w r (.returned (.bool b)) w':=⟨by rw[h],n,hw⟩
theorem may_any(b q:Nat)(x:WEnt)(p:Option Addr×Nat)(t:Int)(w:World)(h:EntAt w b q x p):
 Calls Tryz.prog 38 #[.pointer (some ⟨b,q,none⟩),.int .i64 t] w (RetMay w (mayE t x)):=by
 obtain⟨h0,h1,h2,h3,h4⟩:=h;obtain⟨x0,x1,x2,x3,x4⟩:=x;obtain⟨p0,p1⟩:=p;simp only at h0 h1 h2 h3 h4;have hmt:= @may_t t ⟨x0,x1,x2,x3,x4⟩;have hmf:= @may_f t ⟨x0,x1,x2,x3,x4⟩;simp only at hmt hmf;generalize mayE t ⟨x0,x1,x2,x3,x4⟩=r at hmt hmf ⊢;have HT:=h_ hmt;have HF:=h_ hmf;clear hmt hmf;obtain⟨b1,e1⟩:∃b1,(x1==1)=b1:= ⟨_,rfl⟩;obtain⟨b2,e2⟩:∃b2,(x1 !=2)=b2:= ⟨_,rfl⟩;obtain⟨b3,e3⟩:∃b3,((x3.toNat:Int) !=0)=b3:= ⟨_,rfl⟩;cases b1<;>cases b2<;>cases b3
 all_goals
  go_enter Tryz.func38,Tryz.ntmps38;go_wp2_with fail
  all_goals first
   |(go_ret;first|exact ret_may (HF (by simp at e1 e2 e3;omega)) 0 rfl|exact ret_may (HT (by simp at e1 e2 e3;omega)) 0 rfl|exact ret_may (HF (by simp at e1 e2 e3;omega)) _ rfl|exact ret_may (HT (by simp at e1 e2 e3;omega)) _ rfl|exact ret_may (by by_cases hc:x4.length≤ 16384<;>first| (rw[HT.out (by simp at e1 e2 e3;omega)];exact(decide_eq_true o_).symm)|(rw[HF.out (by simp at e1 e2 e3;omega)];exact(decide_eq_false o_).symm)) _ rfl)
   |(go_quiet (fail);go_wp2_with fail;all_goals(go_ret;first|exact ret_may (HF (by simp at e1 e2 e3;omega)) 0 rfl|exact ret_may (HT (by simp at e1 e2 e3;omega)) 0 rfl|exact ret_may (HF (by simp at e1 e2 e3;omega)) _ rfl|exact ret_may (HT (by simp at e1 e2 e3;omega)) _ rfl|exact ret_may (by by_cases hc:x4.length≤ 16384<;>first| (rw[HT.out (by simp at e1 e2 e3;omega)];exact(decide_eq_true o_).symm)|(rw[HF.out (by simp at e1 e2 e3;omega)];exact(decide_eq_false o_).symm)) _ rfl))
def layRw:Lay Tryz.prog 79 RwE:=Lay.struct cellsRw 5 56 (fun _=>rfl) d_ d_ (fun x u hu=>by simp at hu;rcases hu with h|h| h|h| h<;>subst h<;>rfl) k_ _ Tryz.underlying79 rfl
theorem refentry_any(x:WEnt)(p:Option Addr×Nat)(t:Int)(w:World):
 Calls Tryz.prog 96 #[.agg #[.int .i64 x.term,.int .i8 x.kind,.int .i64 x.stamp,B x.set,.slice p.1 x.data.length p.2],.int .i64 t] w (RetSame w (mayE t x)):=by
 obtain⟨x0,x1,x2,x3,x4⟩:=x;obtain⟨p0,p1⟩:=p;have hmt:= @may_t t ⟨x0,x1,x2,x3,x4⟩;have hmf:= @may_f t ⟨x0,x1,x2,x3,x4⟩;simp only at hmt hmf ⊢;generalize mayE t ⟨x0,x1,x2,x3,x4⟩=r at hmt hmf ⊢;have HT:=h_ hmt;have HF:=h_ hmf;clear hmt hmf;rcases f1:decide (x0<1)with _|_;rotate_left
 ·(go_enter Tryz.func96,Tryz.ntmps96;go_wp2_with fail)
  all_goals(go_ret;first|exact ⟨congrArg (fun b=>Ending.returned (.bool b)) (HF (by simp only[beq_eq_false_iff_ne,beq_iff_eq,bne_iff_ne,bne_eq_false_iff_eq,decide_eq_true_eq,decide_eq_false_iff_not,ne_eq]at f1;omega)).symm,mid_alloc' b_⟩|exact ⟨congrArg (fun b=>Ending.returned (.bool b)) (HT (by simp only[beq_eq_false_iff_ne,beq_iff_eq,bne_iff_ne,bne_eq_false_iff_eq,decide_eq_true_eq,decide_eq_false_iff_not,ne_eq]at f1;omega)).symm,mid_alloc' b_⟩)
 rcases f2:decide (x0<t)with _|_;rotate_left
 ·(go_enter Tryz.func96,Tryz.ntmps96;go_wp2_with fail)
  all_goals(go_ret;first|exact ⟨congrArg (fun b=>Ending.returned (.bool b)) (HF (by simp only[beq_eq_false_iff_ne,beq_iff_eq,bne_iff_ne,bne_eq_false_iff_eq,decide_eq_true_eq,decide_eq_false_iff_not,ne_eq]at f2;omega)).symm,mid_alloc' b_⟩|exact ⟨congrArg (fun b=>Ending.returned (.bool b)) (HT (by simp only[beq_eq_false_iff_ne,beq_iff_eq,bne_iff_ne,bne_eq_false_iff_eq,decide_eq_true_eq,decide_eq_false_iff_not,ne_eq]at f2;omega)).symm,mid_alloc' b_⟩)
 rcases f3:decide (x2<0)with _|_;rotate_left
 ·(go_enter Tryz.func96,Tryz.ntmps96;go_wp2_with fail)
  all_goals(go_ret;first|exact ⟨congrArg (fun b=>Ending.returned (.bool b)) (HF (by simp only[beq_eq_false_iff_ne,beq_iff_eq,bne_iff_ne,bne_eq_false_iff_eq,decide_eq_true_eq,decide_eq_false_iff_not,ne_eq]at f3;omega)).symm,mid_alloc' b_⟩|exact ⟨congrArg (fun b=>Ending.returned (.bool b)) (HT (by simp only[beq_eq_false_iff_ne,beq_iff_eq,bne_iff_ne,bne_eq_false_iff_eq,decide_eq_true_eq,decide_eq_false_iff_not,ne_eq]at f3;omega)).symm,mid_alloc' b_⟩)
 rcases f4:decide (x1<0)with _|_;rotate_left
 ·(go_enter Tryz.func96,Tryz.ntmps96;go_wp2_with fail)
  all_goals(go_ret;first|exact ⟨congrArg (fun b=>Ending.returned (.bool b)) (HF (by simp only[beq_eq_false_iff_ne,beq_iff_eq,bne_iff_ne,bne_eq_false_iff_eq,decide_eq_true_eq,decide_eq_false_iff_not,ne_eq]at f4;omega)).symm,mid_alloc' b_⟩|exact ⟨congrArg (fun b=>Ending.returned (.bool b)) (HT (by simp only[beq_eq_false_iff_ne,beq_iff_eq,bne_iff_ne,bne_eq_false_iff_eq,decide_eq_true_eq,decide_eq_false_iff_not,ne_eq]at f4;omega)).symm,mid_alloc' b_⟩)
 rcases f5:decide ((2:Int)<x1)with _|_;rotate_left
 ·(go_enter Tryz.func96,Tryz.ntmps96;go_wp2_with fail)
  all_goals(go_ret;first|exact ⟨congrArg (fun b=>Ending.returned (.bool b)) (HF (by simp only[beq_eq_false_iff_ne,beq_iff_eq,bne_iff_ne,bne_eq_false_iff_eq,decide_eq_true_eq,decide_eq_false_iff_not,ne_eq]at f5;omega)).symm,mid_alloc' b_⟩|exact ⟨congrArg (fun b=>Ending.returned (.bool b)) (HT (by simp only[beq_eq_false_iff_ne,beq_iff_eq,bne_iff_ne,bne_eq_false_iff_eq,decide_eq_true_eq,decide_eq_false_iff_not,ne_eq]at f5;omega)).symm,mid_alloc' b_⟩)
 have HS:=h_ (And.intro f1 (And.intro f2 (And.intro f3 (And.intro f4 f5))));rcases e1:(x1==1)with _|_<;>rcases e3:((x3.toNat:Int) !=0)with _|_<;>rcases e2:(x1==2)with _|_<;>rcases e4:((x4.length:Int)==0)with _|_<;>rcases e5:decide ((x4.length:Int)≤16384)with _|_
 all_goals
  (go_enter Tryz.func96,Tryz.ntmps96;go_wp2_with fail)
  all_goals(go_ret;first|exact ⟨congrArg (fun b=>Ending.returned (.bool b)) (HF (by simp only[beq_eq_false_iff_ne,beq_iff_eq,bne_iff_ne,bne_eq_false_iff_eq,decide_eq_true_eq,decide_eq_false_iff_not,ne_eq]at f1 f2 f3 f4 f5 e1 e2 e3 e4 e5;omega)).symm,mid_alloc' b_⟩|exact ⟨congrArg (fun b=>Ending.returned (.bool b)) (HT (by simp only[beq_eq_false_iff_ne,beq_iff_eq,bne_iff_ne,bne_eq_false_iff_eq,decide_eq_true_eq,decide_eq_false_iff_not,ne_eq]at f1 f2 f3 f4 f5 e1 e2 e3 e4 e5;omega)).symm,mid_alloc' b_⟩)
def RetOwnRw(w:World)(xs:List RwE)(e:Ending)(w':World):Prop:=
 ∃a c,e= .returned (.slice a xs.length c)∧Near w.heap.size none a∧Can w' w.heap.size 79 (layRw).size a xs.length c (xs.flatMap (layRw).cells)∧
  (0<xs.length→ w'.ownsRow w.heap.size 79 (layRw).size (.slice a xs.length c) xs.length (xs.flatMap (layRw).cells))∧(∀b o s,a=some ⟨b,o,s⟩→b< w'.heap.size)∧Below w.heap.size w w'
theorem cloneRw(xs:List RwE)(a:Option Addr)(n c:Nat)(w:World)(hn:xs.length= n)(hby:n* (layRw).bytes≤140737488355328)(hm:n≤ maxLen)(hc:a= none→c= 0)(hnc:n≤ c)(hr:LRow layRw w a xs):
 Calls Tryz.prog 91 #[.slice a n c] w (RetOwnRw w xs):=by
 subst hn;cases a with
 |none=>
  obtain rfl:=hc rfl;have h0:xs.length= 0:=o_;obtain rfl:xs= []:=List.eq_nil_of_length_eq_zero h0;go_enter Tryz.func91,Tryz.ntmps91;have hnil:=Lib.run_eql_slice_nil (P:=Tryz.prog) w 31 79 none 0 0 0 0 Tryz.underlying31;go_wp2;go_returns;exact⟨none,0,rfl,Near.nil _ _,Can.nil _ _ _ _,fun h=>absurd h (by simp),fun _ _ _ h=>(by cases h),Below.refl _ _⟩
 |some x=>
  have HR:=h_ hr;clear hr;go_enter Tryz.func91,Tryz.ntmps91;have hnil:=Lib.run_eql_slice_nil (P:=Tryz.prog) w 31 79 (some x) xs.length c 0 0 Tryz.underlying31;go_wp2_with(at_builtin;refine wpList_can ((layRw).elem Tryz.underlying31) rfl _ _ rfl w.heap.size _ 0 _ _ rfl (Can.empty _ _ _ _ _) _ xs.length _ (xs.flatMap (layRw).cells) rfl ((layRw).length _) (Row.alloc HR.out _) ((layRw).ones _) (by rw[Nat.zero_add];exact hby) (by simp) ?_;intro a' c' w3 hcan3 _ hb3 hown);go_returns;rw[Nat.zero_add,List.nil_append]at hcan3 hown;have hnear:Near w.heap.size none a':=by
   by_cases h0:0< xs.length
   ·exact Near.own (hown.1 h0) n_
   ·rw[(hown.2 o_).1];intro b o s hb;simp at hb;exact .inl o_
  have hblt:∀b o s,a'=some ⟨b,o,s⟩→b< w3.heap.size:=fun b o s hab=>by
   by_cases h0:0< xs.length
   ·exact((hown.1 h0).lt b (by rw[hab];rfl)).2
   ·have h1:=hb3.size;rw[(hown.2 o_).1]at hab;simp at hab h1;omega
  exact⟨a',c',rfl,hnear,hcan3,fun h=>hown.1 h,hblt,(b_.alloc n_ _).trans hb3⟩
end Go.Proofs.YtoeofkcpclfnhaaGreat
