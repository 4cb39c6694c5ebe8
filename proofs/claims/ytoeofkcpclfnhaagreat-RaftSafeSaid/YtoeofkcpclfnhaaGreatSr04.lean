import Derived.Test.YtoeofkcpclfnhaaGreatSr03
set_option linter.unusedVariables false
set_option linter.unusedSimpArgs false
namespace Go.Proofs.YtoeofkcpclfnhaaGreat
open Go.ChangeShapes Go.WideShapes Go.ChangeAt Go.RowKit
set_option maxRecDepth 100000
set_option maxHeartbeats 16000000
def Bex(w:World)(g:Nat)(cs:List Value):Prop:= ∃t,w.heap[g]? =some (.cells cs.toArray t (0,0))
theorem Bex.cell'{w:World}{g:Nat}{cs:List Value}(h:Bex w g cs)(j:Nat):w.cell? ⟨g,j,none⟩=cs[j]?:=by
 obtain⟨t,h⟩:=h;simp[World.cell?,h]
theorem Box.cs{w:World}{g:Nat}{cs:List Value}(h:Box w g cs):Cs w g 0 cs:=Cs.of h.range
theorem Bex.box{w:World}{g:Nat}{cs:List Value}(h:Bex w g cs):Box w g cs:=⟨fun j v hj=>by rw[Nat.zero_add,h.cell' j,hj],fun j hj=>by
 rw[Nat.zero_add,h.cell' j];refine⟨by rw[List.getElem?_eq_getElem hj];rfl,?_⟩;obtain⟨t,h⟩:=h
 simp[World.frozen?,h]⟩
theorem Bex.lt{w:World}{g:Nat}{cs:List Value}(h:Bex w g cs):g< w.heap.size:=by
 obtain⟨t,h⟩:=h;exact(Array.getElem?_eq_some_iff.1 h).1
theorem Bex.block{w w':World}{g:Nat}{cs:List Value}(h:Bex w g cs)(hg:w'.heap[g]? =w.heap[g]?):Bex w' g cs:=by
 obtain⟨t,h⟩:=h;exact⟨t,hg.trans h⟩
theorem Bex.next{w w':World}{g:Nat}{cs:List Value}(h:Bex w g cs)(hb:Below w.heap.size w w'):Bex w' g cs:=h.block (hb.block g h.lt)
theorem Bex.below{w w':World}{g B:Nat}{cs:List Value}(h:Bex w g cs)(hb:Below B w w')(hg:g< B):Bex w' g cs:=h.block (hb.block g hg)
theorem Bex.wrote{w w':World}{g g':Nat}{cs:List Value}(h:Bex w g cs)(hw:Wrote g' w w')(hne:g≠ g'):Bex w' g cs:=h.block (hw.keep g hne)
theorem Bex.only{w w':World}{g g':Nat}{cs:List Value}(h:Bex w g cs)(hw:Only g' w w')(hne:g≠ g'):Bex w' g cs:=h.block (hw.block g h.lt hne)
theorem Bex.drew{w:World}{g:Nat}{cs:List Value}(h:Bex w g cs):Bex w.drew g cs:=h.block rfl
theorem Bex.far{w:World}{g:Nat}{cs:List Value}(h:Bex w g cs){p:Addr}(hp:p.block≠ g)(v:Value):Bex (w.setCell p v) g cs:=h.block (Below.heap_setCell _ _ _ _ (fun e=>hp e.symm))
theorem Bex.set{w:World}{g:Nat}{cs:List Value}(h:Bex w g cs)(i:Nat)(v:Value):Bex (w.setCell ⟨g,i,none⟩ v) g (cs.set i v):=by
 obtain⟨t,h⟩:=h;refine⟨t,?_⟩;rw[heap_setCell_same w g i _ t v h,List.setIfInBounds_toArray]
theorem Bex.new(w:World)(cs:List Value)(t:TypeId):Bex (w.alloc (.cells cs.toArray t)) w.heap.size cs:=⟨t,heap_alloc_new w _⟩
theorem Bex.of_alloc{w w':World}{cs:List Value}{t:TypeId}(hb:Below (w.alloc (.cells cs.toArray t)).heap.size (w.alloc (.cells cs.toArray t)) w'):Bex w' w.heap.size cs:=(Bex.new w cs t).next hb
theorem bex_setCells{g:Nat}:∀(vs:List Value) (w:World) (pre mid post:List Value),mid.length=vs.length→ Bex w g (pre++(mid++post))→Bex (w.setCells g pre.length vs) g (pre++(vs++post))
 |[],w,pre,mid,post,hl,h=>by
  obtain rfl:mid= []:=List.eq_nil_of_length_eq_zero hl;exact h
 |v:: vs,w,pre,[],post,hl,h=>by cases hl
 |v:: vs,w,pre,m::mid,post,hl,h=>by
  rw[World.setCells];have h1:=h.set pre.length v;rw[List.set_append_right _ _ n_,Nat.sub_self,List.cons_append,List.set_cons_zero]at h1;have h2:Bex (w.setCell ⟨g,pre.length,none⟩ v) g ((pre++[v])++(mid++post)):=by rw[List.append_assoc];exact h1
  have h3:=bex_setCells vs _ (pre++[v]) mid post (by simpa using hl) h2;rw[List.length_append,List.length_singleton,List.append_assoc]at h3;exact h3
theorem Bex.put{w:World}{g:Nat}{cs vs:List Value}(h:Bex w g cs)(hl:cs.length= vs.length):Bex (w.setCells g 0 vs) g vs:=by
 have:=bex_setCells (g:=g) vs w [] cs [] hl (by simpa using h);simpa using this
section
variable {P:Program} {e:TypeId} {α:Type}
theorem wpList_store_bex{ops:Array Oper}{rest:List Oper}{op:Oper}{a:Act}{w:World}{Q:Exit→ Act→World→ Prop}(L:Lay P e α)(hgd:op.guard= none)(x y:Operand)(ho:op.op= .store e x y)(g:Nat)(z:α)(cs:List Value)(hx:a.eval x= .pointer (some ⟨g,0,none⟩))(hy:a.eval y=L.val z)(hb:Bex w g cs)(hl:cs.length= L.size)(h:∀w',Bex w' g (L.cells z)→Wrote g w w'→wpList P ops Q rest (a.put op.dst undef) w'):wpList P ops Q (op::rest) a w:=
 wpList_store_lay L hgd x y ho g 0 z hx hy (by rw[←hl];exact hb.box.there) (h _ (hb.put (by rw[hl,L.len])) ⟨fun _ hB=>Below.setCells hB _ _ b_,setCells_size _ _ _ _,fun k hk=>setCells_keep g _ _ _ k hk⟩)
theorem tq11 {P:Prop}(h:P:=by
 have hs:q.size= 1:=by simpa[hq]using hi
 simp only[Nat.add_zero]at this
 simp[storeVar,sizeOf,typeInfo,hq,hv,hs,this,World.setCells]):P:=h
theorem wpList_field_bex{ops:Array Oper}{rest:List Oper}{op:Oper}{a:Act}{w:World}{Q:Exit→ Act→World→ Prop}{t:TypeId}(hgd:op.guard= none)(x y:Operand)(ho:op.op= .store t x y)(hi:(P.info? t).map (·.size)=some 1)(g i:Nat)(cs:List Value)(v:Value)(hx:a.eval x= .pointer (some ⟨g,i,none⟩))(hy:a.eval y=v)(hv:v.cells= #[v])(h1:v.oneCell'= true)(hb:Bex w g cs)(hlt:i< cs.length)(h:∀w',Bex w' g (cs.set i v)→Wrote g w w'→wpList P ops Q rest (a.put op.dst undef) w'):wpList P ops Q (op::rest) a w:=
 wpList_plain hgd fun K hK=>by
  have hth:w.there g i 1:=fun j hj=>by
   have:=hb.box.there i hlt;obtain rfl:j= 0:=o_;rw[Nat.zero_add]at this;exact this
  have hrun:(storeVar t ⟨g,i,none⟩ v).run P w= .ok () (w.setCell ⟨g,i,none⟩ v):=by
   have:=run_storeCells_cells (P:=P) g i [v] 0 w (fun j hj=>by simpa using (hth j (by simpa using hj)).1) (fun j hj=>by simpa using (hth j (by simpa using hj)).2) (fun u hu=>by simp at hu;subst hu;exact h1);cases hq:P.info? t with
   |none=> simp[hq]at hi
   |some q=>
    exact tq11
  unfold Oper.wp execOp;simp only[ho,hx,hy,Instr.storeAt,Instr.sureAddr,Sem.run_bind,Sem.run_pure,Result.andThen_ok,hrun];exact hK _ _ (h _ (hb.set i v) ⟨fun B hB=>(Below.refl B w).setCell (p:=⟨g,i,none⟩) hB v,by simp,fun k hk=>Below.heap_setCell _ _ _ _ (fun e=>hk e)⟩)
theorem at_load{P:Program}{ops:Array Oper}{Q:Exit→ Act→World→ Prop}{rest:List Oper}{a:Act}{w:World}{d:Option Tmp}{t:TypeId}{p:String}{af:Array Edge}{g:Option (Nat×Bool)}(e:TypeId)(x:Operand)(h:wpList P ops Q ({dst:=d,op:= .load e x,type:=t,pos:=p,after:=af,guard:=g}::rest) a w):wpList P ops Q ({dst:=d,op:= .load e x,type:=t,pos:=p,after:=af,guard:=g}::rest) a w:=h
theorem at_store{P:Program}{ops:Array Oper}{Q:Exit→ Act→World→ Prop}{rest:List Oper}{a:Act}{w:World}{d:Option Tmp}{t:TypeId}{p:String}{af:Array Edge}{g:Option (Nat×Bool)}(e:TypeId)(x y:Operand)(h:wpList P ops Q ({dst:=d,op:= .store e x y,type:=t,pos:=p,after:=af,guard:=g}::rest) a w):wpList P ops Q ({dst:=d,op:= .store e x y,type:=t,pos:=p,after:=af,guard:=g}::rest) a w:=h
theorem op_store_bex{op:Oper}{a:Act}{w:World}{K:Act→ World→Prop}{Q:Exit→ Act→World→ Prop}(L:Lay P e α)(x y:Operand)(ho:op.op= .store e x y)(g:Nat)(z:α)(cs:List Value)(hx:a.eval x= .pointer (some ⟨g,0,none⟩))(hy:a.eval y=L.val z)(hb:Bex w g cs)(hl:cs.length= L.size)(h:∀w',Bex w' g (L.cells z)→Wrote g w w'→K (a.put op.dst undef) w'):Oper.wp P op a w K Q:=by
 have ht:w.there g 0 L.size:=by rw[←hl];exact hb.box.there
 unfold Oper.wp execOp;simp only[ho,hx,hy,Sem.run_bind,Sem.run_pure,Result.andThen_ok,L.store w g 0 z ht];exact h _ (hb.put (by rw[hl,L.len])) ⟨fun _ hB=>Below.setCells hB _ _ b_,setCells_size _ _ _ _,fun k hk=>setCells_keep g _ _ _ k hk⟩
theorem op_field_bex{op:Oper}{a:Act}{w:World}{K:Act→ World→Prop}{Q:Exit→ Act→World→ Prop}{t:TypeId}(x y:Operand)(ho:op.op= .store t x y)(hi:(P.info? t).map (·.size)=some 1)(g i:Nat)(cs:List Value)(v:Value)(hx:a.eval x= .pointer (some ⟨g,i,none⟩))(hy:a.eval y=v)(hv:v.cells= #[v])(h1:v.oneCell'= true)(hb:Bex w g cs)(hlt:i< cs.length)(h:∀w',Bex w' g (cs.set i v)→Wrote g w w'→K (a.put op.dst undef) w'):Oper.wp P op a w K Q:=by
 have hth:w.there g i 1:=fun j hj=>by
  have:=hb.box.there i hlt;obtain rfl:j= 0:=o_;rw[Nat.zero_add]at this;exact this
 have hrun:(storeVar t ⟨g,i,none⟩ v).run P w= .ok () (w.setCell ⟨g,i,none⟩ v):=by
  have:=run_storeCells_cells (P:=P) g i [v] 0 w (fun j hj=>by simpa using (hth j (by simpa using hj)).1) (fun j hj=>by simpa using (hth j (by simpa using hj)).2) (fun u hu=>by simp at hu;subst hu;exact h1);cases hq:P.info? t with
  |none=> simp[hq]at hi
  |some q=>
   exact tq11
 unfold Oper.wp execOp;simp only[ho,hx,hy,Instr.storeAt,Instr.sureAddr,Sem.run_bind,Sem.run_pure,Result.andThen_ok,hrun];exact h _ (hb.set i v) ⟨fun B hB=>(Below.refl B w).setCell (p:=⟨g,i,none⟩) hB v,by simp,fun k hk=>Below.heap_setCell _ _ _ _ (fun e=>hk e)⟩
theorem bex2(w:World)(c1 c2:List Value)(t1 t2:TypeId):Below w.heap.size w ((w.alloc (.cells c1.toArray t1)).alloc (.cells c2.toArray t2))∧Bex ((w.alloc (.cells c1.toArray t1)).alloc (.cells c2.toArray t2)) w.heap.size c1∧Bex ((w.alloc (.cells c1.toArray t1)).alloc (.cells c2.toArray t2)) (w.heap.size+1) c2∧((w.alloc (.cells c1.toArray t1)).alloc (.cells c2.toArray t2)).heap.size=w.heap.size+ 2:=by
 refine⟨mid_alloc' (mid_alloc' b_),Bex.of_alloc (w:=w) (mid_alloc' b_),?_,by simp⟩;have:=Bex.new (w.alloc (.cells c1.toArray t1)) c2 t2;rw[World.size_alloc]at this;exact this
theorem bex3(w:World)(c1 c2 c3:List Value)(t1 t2 t3:TypeId):Below w.heap.size w (((w.alloc (.cells c1.toArray t1)).alloc (.cells c2.toArray t2)).alloc (.cells c3.toArray t3))∧Bex (((w.alloc (.cells c1.toArray t1)).alloc (.cells c2.toArray t2)).alloc (.cells c3.toArray t3)) w.heap.size c1∧Bex (((w.alloc (.cells c1.toArray t1)).alloc (.cells c2.toArray t2)).alloc (.cells c3.toArray t3)) (w.heap.size+1) c2∧Bex (((w.alloc (.cells c1.toArray t1)).alloc (.cells c2.toArray t2)).alloc (.cells c3.toArray t3)) (w.heap.size+1+ 1) c3∧(((w.alloc (.cells c1.toArray t1)).alloc (.cells c2.toArray t2)).alloc (.cells c3.toArray t3)).heap.size=w.heap.size+ 3:=by
 obtain⟨h1,h2,h3,h4⟩:=bex2 w c1 c2 t1 t2;have hb:=(Below.refl ((w.alloc (.cells c1.toArray t1)).alloc (.cells c2.toArray t2)).heap.size ((w.alloc (.cells c1.toArray t1)).alloc (.cells c2.toArray t2))).alloc n_ (.cells c3.toArray t3);refine⟨h1.trans (hb.mono h1.size),h2.next hb,h3.next hb,?_,by simp⟩;have:=Bex.new ((w.alloc (.cells c1.toArray t1)).alloc (.cells c2.toArray t2)) c3 t3;rw[h4]at this;exact this
theorem bex4(w:World)(c1 c2 c3 c4:List Value)(t1 t2 t3 t4:TypeId):Below w.heap.size w ((((w.alloc (.cells c1.toArray t1)).alloc (.cells c2.toArray t2)).alloc (.cells c3.toArray t3)).alloc (.cells c4.toArray t4))∧Bex ((((w.alloc (.cells c1.toArray t1)).alloc (.cells c2.toArray t2)).alloc (.cells c3.toArray t3)).alloc (.cells c4.toArray t4)) w.heap.size c1∧Bex ((((w.alloc (.cells c1.toArray t1)).alloc (.cells c2.toArray t2)).alloc (.cells c3.toArray t3)).alloc (.cells c4.toArray t4)) (w.heap.size+1) c2∧Bex ((((w.alloc (.cells c1.toArray t1)).alloc (.cells c2.toArray t2)).alloc (.cells c3.toArray t3)).alloc (.cells c4.toArray t4)) (w.heap.size+1+ 1) c3∧Bex ((((w.alloc (.cells c1.toArray t1)).alloc (.cells c2.toArray t2)).alloc (.cells c3.toArray t3)).alloc (.cells c4.toArray t4)) (w.heap.size+1+ 1+1) c4∧((((w.alloc (.cells c1.toArray t1)).alloc (.cells c2.toArray t2)).alloc (.cells c3.toArray t3)).alloc (.cells c4.toArray t4)).heap.size=w.heap.size+ 4:=by
 obtain⟨h1,h2,h3,h3',h4⟩:=bex3 w c1 c2 c3 t1 t2 t3;have hb:=(Below.refl (((w.alloc (.cells c1.toArray t1)).alloc (.cells c2.toArray t2)).alloc (.cells c3.toArray t3)).heap.size (((w.alloc (.cells c1.toArray t1)).alloc (.cells c2.toArray t2)).alloc (.cells c3.toArray t3))).alloc n_ (.cells c4.toArray t4);refine⟨h1.trans (hb.mono h1.size),h2.next hb,h3.next hb,h3'.next hb,?_,by simp⟩;have:=Bex.new (((w.alloc (.cells c1.toArray t1)).alloc (.cells c2.toArray t2)).alloc (.cells c3.toArray t3)) c4 t4;rw[h4]at this;exact this
theorem bex5(w:World)(c1 c2 c3 c4 c5:List Value)(t1 t2 t3 t4 t5:TypeId):Below w.heap.size w (((((w.alloc (.cells c1.toArray t1)).alloc (.cells c2.toArray t2)).alloc (.cells c3.toArray t3)).alloc (.cells c4.toArray t4)).alloc (.cells c5.toArray t5))∧Bex (((((w.alloc (.cells c1.toArray t1)).alloc (.cells c2.toArray t2)).alloc (.cells c3.toArray t3)).alloc (.cells c4.toArray t4)).alloc (.cells c5.toArray t5)) w.heap.size c1∧Bex (((((w.alloc (.cells c1.toArray t1)).alloc (.cells c2.toArray t2)).alloc (.cells c3.toArray t3)).alloc (.cells c4.toArray t4)).alloc (.cells c5.toArray t5)) (w.heap.size+1) c2∧Bex (((((w.alloc (.cells c1.toArray t1)).alloc (.cells c2.toArray t2)).alloc (.cells c3.toArray t3)).alloc (.cells c4.toArray t4)).alloc (.cells c5.toArray t5)) (w.heap.size+1+ 1) c3∧Bex (((((w.alloc (.cells c1.toArray t1)).alloc (.cells c2.toArray t2)).alloc (.cells c3.toArray t3)).alloc (.cells c4.toArray t4)).alloc (.cells c5.toArray t5)) (w.heap.size+1+ 1+1) c4∧Bex (((((w.alloc (.cells c1.toArray t1)).alloc (.cells c2.toArray t2)).alloc (.cells c3.toArray t3)).alloc (.cells c4.toArray t4)).alloc (.cells c5.toArray t5)) (w.heap.size+1+ 1+1+ 1) c5∧(((((w.alloc (.cells c1.toArray t1)).alloc (.cells c2.toArray t2)).alloc (.cells c3.toArray t3)).alloc (.cells c4.toArray t4)).alloc (.cells c5.toArray t5)).heap.size=w.heap.size+ 5:=by
 obtain⟨h1,h2,h3,h3',h3'',h4⟩:=bex4 w c1 c2 c3 c4 t1 t2 t3 t4;have hb:=(Below.refl ((((w.alloc (.cells c1.toArray t1)).alloc (.cells c2.toArray t2)).alloc (.cells c3.toArray t3)).alloc (.cells c4.toArray t4)).heap.size ((((w.alloc (.cells c1.toArray t1)).alloc (.cells c2.toArray t2)).alloc (.cells c3.toArray t3)).alloc (.cells c4.toArray t4))).alloc n_ (.cells c5.toArray t5);refine⟨h1.trans (hb.mono h1.size),h2.next hb,h3.next hb,h3'.next hb,h3''.next hb,?_,by simp⟩;have:=Bex.new ((((w.alloc (.cells c1.toArray t1)).alloc (.cells c2.toArray t2)).alloc (.cells c3.toArray t3)).alloc (.cells c4.toArray t4)) c5 t5;rw[h4]at this;exact this
theorem cut_here{T G:Prop}(k:Hid T→G)(h:T):G:= k h
theorem Row.of_bex{w:World}{g:Nat}{cs:List Value}(h:Bex w g cs):Row w (some ⟨g,0,none⟩) cs:=by
 obtain⟨t,h⟩:=h;exact Row.of_block h
theorem new_block{K:Act→ World→Prop}{a:Act}{w0:World}{cs:Array Value}{t:TypeId}(h:∀w',Bex w' w0.heap.size cs.toList→Below w0.heap.size w0 w'→w'.heap.size= w0.heap.size+1→ K a w'):K a (w0.alloc (.cells cs t)):=
 h _ (Bex.new w0 cs.toList t) (b_.alloc n_ _) (by simp)
theorem bex_part{w:World}{g o:Nat}{cs vs:List Value}(h:Bex w g cs)(hl:o+ vs.length≤cs.length):Bex (w.setCells g o vs) g (cs.take o++(vs++cs.drop (o+vs.length))):=by
 have h1:cs= cs.take o++((cs.drop o).take vs.length++cs.drop (o+vs.length)):=by
  rw[←List.drop_drop,List.take_append_drop,List.take_append_drop]
 have h2:(cs.take o).length=o:= by rw[List.length_take];omega
 rw[h1]at h;have h3:=bex_setCells vs w (cs.take o) _ _ (by rw[List.length_take,List.length_drop];omega) h;rw[h2]at h3;exact h3
theorem op_part_bex{op:Oper}{a:Act}{w:World}{K:Act→ World→Prop}{Q:Exit→ Act→World→ Prop}(L:Lay P e α)(x y:Operand)(ho:op.op= .store e x y)(g o:Nat)(z:α)(cs:List Value)(hx:a.eval x= .pointer (some ⟨g,o,none⟩))(hy:a.eval y=L.val z)(hb:Bex w g cs)(hl:o+ L.size≤cs.length)(h:∀w',Bex w' g (cs.take o++(L.cells z++cs.drop (o+L.size)))→Wrote g w w'→K (a.put op.dst undef) w'):Oper.wp P op a w K Q:=by
 have ht:w.there g o L.size:=fun j hj=>hb.box.there (o+j) o_|>.imp (fun h=>by simpa using h) (fun h=>by simpa using h)
 have h1:=bex_part (o:=o) (vs:=L.cells z) hb (by rw[L.len];exact hl);rw[L.len]at h1;unfold Oper.wp execOp;simp only[ho,hx,hy,Sem.run_bind,Sem.run_pure,Result.andThen_ok,L.store w g o z ht];exact h _ h1 ⟨fun _ hB=>Below.setCells hB _ _ b_,setCells_size _ _ _ _,fun k hk=>setCells_keep g _ _ _ k hk⟩
theorem wpList_part_bex{ops:Array Oper}{rest:List Oper}{op:Oper}{a:Act}{w:World}{Q:Exit→ Act→World→ Prop}(L:Lay P e α)(hgd:op.guard= none)(x y:Operand)(ho:op.op= .store e x y)(g o:Nat)(z:α)(cs:List Value)(hx:a.eval x= .pointer (some ⟨g,o,none⟩))(hy:a.eval y=L.val z)(hb:Bex w g cs)(hl:o+ L.size≤cs.length)(h:∀w',Bex w' g (cs.take o++(L.cells z++cs.drop (o+L.size)))→Wrote g w w'→wpList P ops Q rest (a.put op.dst undef) w'):wpList P ops Q (op::rest) a w:=
 wpList_plain hgd fun _ hK=>op_part_bex L x y ho g o z cs hx hy hb hl fun w' h1 h2=>hK _ _ (h w' h1 h2)
def OwnO(w:World)(e:TypeId)(size:Nat)(a:Option Addr)(n c:Nat)(xs:List Value):Prop:=
 xs.length=n* size∧n≤ c∧c≤ maxLen∧((a=none∧ c=0)∨∃g o cur,a=some ⟨g,o,none⟩∧w.heap[g]? =some (.cells cur e (0,0))∧o+ c*size≤ cur.size∧(cur.toList.drop o).take (n*size)=xs)
abbrev blkOf(a:Option Addr):Option Nat:=a.map Addr.block
theorem OwnO.nil(w:World)(e:TypeId)(size:Nat):OwnO w e size none 0 0 []:=⟨by simp,Nat.le_refl _,Nat.zero_le _,.inl ⟨rfl,rfl⟩⟩
theorem OwnO.cap0{w:World}{e:TypeId}{size:Nat}{a:Option Addr}{n c:Nat}{xs:List Value}(h:OwnO w e size a n c xs):a= none→c= 0:=fun ha=>by
 rcases h.2.2.2 with h1|⟨g,o,cur,h1,_⟩
 ·exact h1.2
 ·rw[ha]at h1;cases h1
theorem OwnO.row{w:World}{e:TypeId}{size:Nat}{a:Option Addr}{n c:Nat}{xs:List Value}(h:OwnO w e size a n c xs):Row w a xs:=by
 obtain⟨hl,hnc,hm,h⟩:=h;rcases h with⟨ha,hc⟩|⟨g,o,cur,ha,hg,hs,ht⟩
 ·refine .inl (List.eq_nil_of_length_eq_zero ?_);have:n= 0:=o_;rw[hl,this,Nat.zero_mul]
 ·refine .inr ⟨g,o,ha,fun i hi=> ?_⟩;have h1:n* size≤c* size:=Nat.mul_le_mul_right _ hnc;have h2:o+ i<cur.size:= o_;simp only[World.cell?,hg,Option.isSome_none,Bool.false_eq_true,if_false];rw[Array.getElem?_eq_getElem h2];subst ht;simp
theorem OwnO.keep{w w':World}{e:TypeId}{size:Nat}{a:Option Addr}{n c:Nat}{xs:List Value}(h:OwnO w e size a n c xs)(hk:∀k,blkOf a=some k→w'.heap[k]? =w.heap[k]?):OwnO w' e size a n c xs:=by
 obtain⟨hl,hnc,hm,h⟩:=h;refine⟨hl,hnc,hm,?_⟩;rcases h with h|⟨g,o,cur,ha,hg,hs,ht⟩
 ·exact .inl h
 ·exact .inr ⟨g,o,cur,ha,by rw[hk g (by rw[ha];rfl)];exact hg,hs,ht⟩
theorem OwnO.lt{w:World}{e:TypeId}{size:Nat}{a:Option Addr}{n c:Nat}{xs:List Value}(h:OwnO w e size a n c xs):∀k,blkOf a=some k→k< w.heap.size:=fun k hk=>by
 rcases h.2.2.2 with⟨h1,_⟩|⟨g,o,cur,ha,hg,_⟩
 ·rw[h1]at hk;cases hk
 ·rw[ha]at hk;simp only[blkOf,Option.map_some,Option.some.injEq]at hk;subst hk;exact(Array.getElem?_eq_some_iff.1 hg).1
theorem OwnO.drop{w:World}{e:TypeId}{size g o n c:Nat}{xs:List Value}(h:OwnO w e size (some ⟨g,o,none⟩) n c xs)(k:Nat)(hk:k≤ n):OwnO w e size (some ⟨g,o+k* size,none⟩) (n-k) (c-k) (xs.drop (k*size)):=by
 obtain⟨hl,hnc,hm,h⟩:=h;refine⟨by rw[List.length_drop,hl,Nat.sub_mul],by omega,by omega,.inr ?_⟩;rcases h with⟨h,_⟩|⟨g',o',cur,ha,hg,hs,ht⟩
 ·cases h
 ·simp only[Option.some.injEq,Addr.mk.injEq,and_true]at ha;obtain⟨rfl,rfl⟩:=ha;refine⟨g,o+k* size,cur,rfl,hg,?_,?_⟩
  ·have h1:k* size≤c* size:=Nat.mul_le_mul_right _ o_;rw[Nat.sub_mul];omega
  ·rw[←ht,List.drop_take,List.drop_drop,Nat.sub_mul]
theorem tq12 {P:Prop}(h:P:=by
 exact⟨_,_,_,hr2,hgr.1,hgr.2,fun j hj=> .inr (by simp only[blkOf,Option.map_some,Option.some.injEq]at hj;omega)⟩):P:=h
theorem run_ownO{w:World}{t:TypeId}{size bytes:Nat}(el:Elem P t e size bytes)(ty:TypeId)(a:Option Addr)(n c:Nat)(xs:List Value)(hown:OwnO w e size a n c xs)(ad:Option Addr)(m k:Nat)(news:List Value)(hl:news.length= m*size)(hr:Row w ad news)(h1:∀u∈ news,u.oneCell'=true)(hbytes:(n+m)*bytes≤ 140737488355328):
 ∃a' c' w',(Builtin.append_ #[t,t] ty #[.slice a n c,.slice ad m k]).run P w= .ok (.slice a' (n+m) c') w'∧OwnO w' e size a' (n+m) c' (xs++news)∧w.grownBy w' (blkOf a)∧(∀j,blkOf a'=some j→blkOf a=some j∨w.heap.size≤ j):=by
 obtain⟨i,z,hi,hz,hsize,hby,hzs⟩:=el.info;have hb:=el.bpos;have hp:=el.pos;have h63:n+ m≤maxLen:= by
  have:n+ m≤(n+m)*bytes:= Nat.le_mul_of_pos_right _ hb;unfold maxLen;omega
 subst hsize;subst hby;have hlen:(xs++news).length=(n+m)*i.size:= by rw[List.length_append,hown.1,hl,Nat.add_mul]
 by_cases hm:m= 0
 ·subst hm;obtain rfl:news= []:=List.eq_nil_of_length_eq_zero (by simpa using hl);refine⟨a,c,w,?_,?_,⟨rfl,rfl,rfl,Nat.le_refl _,fun _ _ _=>rfl⟩,fun j hj=> .inl hj⟩
  ·have hle:=hown.2.1;have hfc:∀w': World,(Builtin.firstCells i.size 0 (.slice ad 0 k)).run P w'= .ok #[] w':=fun w'=>by
    cases ad with
    |none=> simp[Builtin.firstCells]
    |some ad=>exact run_firstCells_some w' i.size 0 ad 0 k [] (by simp) (fun j u h=>by simp at h)
   cases a with
   |none=> simp[Builtin.append_,run_underlying el.under,sizeOf,typeInfo,hi,Builtin.lenOf,hle,hfc]
   |some x=>simp [Builtin.append_,run_underlying el.under,sizeOf,typeInfo,hi,Builtin.lenOf,hle,hfc,storeCells]
  ·rw[Nat.add_zero,List.append_nil];exact hown
 ·obtain⟨ad',rfl⟩:∃x,ad=some x:=by
   cases ad with
   |some x=>exact ⟨x,rfl⟩
   |none=>
    rcases hr with rfl|⟨_,_,h,_⟩
    ·rw[List.length_nil]at hl;have:=Nat.mul_pos (Nat.pos_of_ne_zero hm) hp;omega
    ·cases h
  have hnews:=hr.holds;have grown:∀(old:Nat),old<n+ m→
   OwnO (w.drew.alloc (.cells (xs.toArray++news.toArray++ Builtin.zeroCells z.cells (grownCap w (n+m) old e-(n+m))) e)) e i.size (some ⟨w.heap.size,0,none⟩) (n+m) (grownCap w (n+m) old e) (xs++news)∧
   w.grownBy (w.drew.alloc (.cells (xs.toArray++news.toArray++ Builtin.zeroCells z.cells (grownCap w (n+m) old e-(n+m))) e)) (blkOf a):=by
   intro old ho;have hge:=grownCap_ge w (n+m) old e;have hcm:grownCap w (n+m) old e≤maxLen:= grownCap_le_maxLen w (n+m) old e h63;refine⟨⟨hlen,hge,hcm,.inr ⟨w.heap.size,0,_,rfl,heap_alloc_new w.drew _,?_,?_⟩⟩,⟨rfl,rfl,rfl,by simp,fun k hk _=>heap_alloc_old w.drew _ hk⟩⟩
   ·simp only[Array.size_append,List.size_toArray,size_zeroCells,hzs,hown.1,hl,←Nat.add_mul,Nat.zero_add];exact Nat.mul_le_mul_right _ o_
   ·simp only[Array.toList_append,List.append_assoc,List.drop_zero];rw[←List.append_assoc,←hlen];exact List.take_left
  rcases hown.2.2.2 with⟨rfl,rfl⟩|⟨g,o,cur,rfl,hg,hs,ht⟩
  ·have hn0:n= 0:=by have:=hown.2.1;omega
   subst hn0;obtain rfl:xs= []:=List.eq_nil_of_length_eq_zero (by have:=hown.1;simpa using this);have hr2:=Go.run_append_nil (P:=P) w t ty e i z el.under hi hz ad' m k news hl hnews o_ (by unfold maxLen at h63;omega) (by have h3:=hbytes;rw[Nat.zero_add]at h3;omega);have hgr:=grown 0 o_;simp only[Nat.zero_add,List.nil_append,Array.empty_append]at hgr ⊢;exact tq12
  ·by_cases hroom:n+ m≤c
   ·have hfit:o+ n*i.size+ news.length≤cur.size:= by
     have:(n+m)*i.size≤ c*i.size:= Nat.mul_le_mul_right _ hroom;rw[hl];rw[Nat.add_mul]at this;omega
    have hf:=run_firstCells_some (P:=P) w i.size m ad' m k news hl hnews;have hst:=run_storeCells_at P g (o+n* i.size) e news 0 cur w hg (by simpa using hfit) h1;simp only[Nat.add_zero]at hst;have hrun:(Builtin.append_ #[t,t] ty #[.slice (some ⟨g,o,none⟩) n c,.slice (some ad') m k]).run P w= .ok (.slice (some ⟨g,o,none⟩) (n+m) c) (w.setRow g (cur.toList.take (o+n* i.size)++news++ cur.toList.drop (o+n* i.size+news.length)).toArray):=by
     have hadd:(⟨g,o,none⟩:Addr).add (n*i.size)=⟨g,o+n* i.size,none⟩:=by unfold Addr.add;split<;>simp_all
     simp[Builtin.append_,run_underlying el.under,sizeOf,typeInfo,hi,Builtin.lenOf,hroom,hf,hadd,hst]
    refine⟨_,_,_,hrun,⟨hlen,hroom,hown.2.2.1,.inr ⟨g,o,_,rfl,setRow_heap w g cur _ e _ hg,?_,?_⟩⟩,⟨rfl,rfl,rfl,by simp,fun k _ hk=>setRow_other w g k _ (fun e=>hk (by simp[blkOf,e]))⟩,fun j hj=> .inl hj⟩
    ·simp only[List.size_toArray,List.length_append,List.length_take,List.length_drop,Array.length_toList];omega
    ·have h2:(cur.toList.take (o+n* i.size)).drop o=xs:= by rw[List.drop_take,Nat.add_sub_cancel_left];exact ht
     have h3:o≤ (cur.toList.take (o+n* i.size)).length:=by rw[List.length_take,Array.length_toList];omega
     rw[List.toList_toArray,List.append_assoc,List.drop_append_of_le_length h3,h2,←List.append_assoc,←hlen,List.take_left]
   ·have hr2:=run_append_grow (P:=P) w t ty e i z el.under hi hz ⟨g,o,none⟩ n c xs hown.1 (OwnO.row hown).holds ad' m k news hl hnews o_ (by unfold maxLen at h63;omega) (growslice_fits o_ hbytes);have hgr:=grown c o_;exact tq12
theorem op_ownO{op:Oper}{a:Act}{w:World}{K:Act→ World→Prop}{Q:Exit→ Act→World→ Prop}{t:TypeId}{size bytes:Nat}(el:Elem P t e size bytes)(s x:Operand)(ho:op.op= .call {callee:= .builtin .append,args:= #[s,x],argTypes:= #[t,t]})(b:Option Addr)(n c:Nat)(xs:List Value)(hs:a.eval s= .slice b n c)(hown:OwnO w e size b n c xs)(ad:Option Addr)(m k:Nat)(news:List Value)(hx:a.eval x= .slice ad m k)(hl:news.length= m*size)(hr:Row w ad news)(h1:∀u∈ news,u.oneCell'=true)(hbytes:(n+m)*bytes≤ 140737488355328)(h:∀b' c' w',OwnO w' e size b' (n+m) c' (xs++news)→w.grownBy w' (blkOf b)→(∀j,blkOf b'=some j→blkOf b=some j∨w.heap.size≤ j)→K (a.put op.dst (.slice b' (n+m) c')) w'):Oper.wp P op a w K Q:=by
 obtain⟨b',c',w',hrun,h2,h3,h4⟩:=run_ownO el op.type b n c xs hown ad m k news hl hr h1 hbytes;unfold Oper.wp execOp;simp only[ho,resolve,invoke,builtin,Sem.run_bind,Sem.run_pure,Result.andThen_ok,List.map_toArray,List.map_cons,List.map_nil,hs,hx,hrun];exact h b' c' w' h2 h3 h4
theorem wpList_ownO{ops:Array Oper}{rest:List Oper}{op:Oper}{a:Act}{w:World}{Q:Exit→ Act→World→ Prop}{t:TypeId}{size bytes:Nat}(el:Elem P t e size bytes)(hgd:op.guard= none)(s x:Operand)(ho:op.op= .call {callee:= .builtin .append,args:= #[s,x],argTypes:= #[t,t]})(b:Option Addr)(n c:Nat)(xs:List Value)(hs:a.eval s= .slice b n c)(hown:OwnO w e size b n c xs)(ad:Option Addr)(m k:Nat)(news:List Value)(hx:a.eval x= .slice ad m k)(hl:news.length= m*size)(hr:Row w ad news)(h1:∀u∈ news,u.oneCell'=true)(hbytes:(n+m)*bytes≤ 140737488355328)(h:∀b' c' w',OwnO w' e size b' (n+m) c' (xs++news)→w.grownBy w' (blkOf b)→(∀j,blkOf b'=some j→blkOf b=some j∨w.heap.size≤ j)→wpList P ops Q rest (a.put op.dst (.slice b' (n+m) c')) w'):wpList P ops Q (op::rest) a w:=
 wpList_plain hgd fun _ hK=>op_ownO el s x ho b n c xs hs hown ad m k news hx hl hr h1 hbytes fun b' c' w' h2 h3 h4=>hK _ _ (h b' c' w' h2 h3 h4)
theorem op_can{op:Oper}{a:Act}{w:World}{K:Act→ World→Prop}{Q:Exit→ Act→World→ Prop}{t:TypeId}{size bytes:Nat}(el:Elem P t e size bytes)(s x:Operand)(ho:op.op= .call {callee:= .builtin .append,args:= #[s,x],argTypes:= #[t,t]})(B:Nat)(b:Option Addr)(n c:Nat)(xs:List Value)(hs:a.eval s= .slice b n c)(hcan:Can w B e size b n c xs)(ad:Option Addr)(m k:Nat)(news:List Value)(hx:a.eval x= .slice ad m k)(hl:news.length= m*size)(hr:Row w ad news)(h1:∀u∈ news,u.oneCell'=true)(hbytes:(n+m)*bytes≤ 140737488355328)(hB:B≤ w.heap.size)(h:∀b' c' w',Can w' B e size b' (n+m) c' (xs++news)→Below B w w'→K (a.put op.dst (.slice b' (n+m) c')) w'):Oper.wp P op a w K Q:=by
 obtain⟨b',c',w',hrun,h2,_,h3,_⟩:=run_can el op.type B b n c xs hcan ad m k news hl hr h1 hbytes hB;unfold Oper.wp execOp;simp only[ho,resolve,invoke,builtin,Sem.run_bind,Sem.run_pure,Result.andThen_ok,List.map_toArray,List.map_cons,List.map_nil,hs,hx,hrun];exact h b' c' w' h2 h3
end
end Go.Proofs.YtoeofkcpclfnhaaGreat
