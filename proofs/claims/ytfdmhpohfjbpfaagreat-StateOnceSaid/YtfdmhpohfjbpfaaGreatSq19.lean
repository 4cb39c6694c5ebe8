import Derived.Test.YtfdmhpohfjbpfaaGreatSqStaApGo
set_option linter.unusedVariables false
set_option linter.unusedSimpArgs false
namespace Go.Proofs.YtfdmhpohfjbpfaaGreat
open Go.ChangeShapes Go.WideShapes Go.ChangeAt Go.RowKit
set_option maxRecDepth 100000
theorem applyS_bad {s:St} {x:WEnt} (h:stateOk s=false∨ x.term<1∨ x.stamp<0∨ x.kind<0∨ 2<x.kind):applyS s x=(s,Ans.err 2):=by unfold applyS;rw[if_pos h]
theorem apply_any (s:St) (r:Raw) (x:WEnt) (px:PEnt) (w:World) (h:StAt w 0 r s) (hsm:Small s) (hi1:InI s.stamp) (hi2:InI x.stamp) (hd:RowB w px.1 x.data) (hdl:x.data.length≤ px.2) (hdm:x.data.length≤ 8000):
 Calls Tryz.prog 15 #[r.agg,valEnt x px] w (RetSAB w.heap.size w (applyS s x)):=by
 by_cases hb:stateOk s=false∨ x.term<1∨ x.stamp<0∨ x.kind<0∨ 2<x.kind
 ·rw[applyS_bad hb];exact apply_bad s r x px w h hsm hb
 ·have hk:stateOk s=true:= by
   cases hq:stateOk s with
   |true=> rfl
   |false=> exact absurd (.inl hq) hb
  exact apply_good s r x px w h hsm hk (by omega) (by omega) (by omega) (by omega) hi1 hi2 hd hdl hdm
theorem client_stamp {f:St→ WCmd→St× Ans} {s:St} {c:WCmd} (h:(f s c).1.stamp=s.stamp):(clientC f s c).1.stamp=s.stamp:= by
 unfold clientC
 by_cases h1:(askS s.sess c.client c.number).2.2≠0
 ·rw[if_pos h1]
 ·rw[if_neg h1]
  by_cases h2:(askS s.sess c.client c.number).2.1=false
  ·rw[if_pos h2]
  ·rw[if_neg h2];exact h
theorem grantC_stamp (s:St) (c:WCmd):(grantC s c).1.stamp=s.stamp:= by
 have hg:(grantNew s c).1.stamp=s.stamp:= (grant_rest _ _ _ _ _ _).2.1
 unfold grantC
 by_cases h1:deskBad c
 ·rw[if_pos h1]
 ·rw[if_neg h1]
  cases findK Desk.shaper s.dsks c.shaper with
  |none=> exact hg
  |some d=>
   simp only
   by_cases h2:deskOld c d
   ·rw[if_pos h2]
   ·rw[if_neg h2]
    by_cases h3:deskTold c d
    ·rw[if_pos h3]
    ·rw[if_neg h3];exact hg
theorem doC_stamp (s:St) (c:WCmd):(doC s c).1.stamp=s.stamp:= by
 unfold doC
 by_cases h1:c.kind= 1
 ·rw[if_pos h1];exact client_stamp rfl
 rw[if_neg h1]
 by_cases h2:c.kind= 2
 ·rw[if_pos h2];exact client_stamp rfl
 rw[if_neg h2]
 by_cases h3:c.kind= 3
 ·rw[if_pos h3];exact client_stamp rfl
 rw[if_neg h3]
 by_cases h4:c.kind= 4
 ·rw[if_pos h4];exact grantC_stamp s c
 rw[if_neg h4]
 by_cases h5:c.kind= 5
 ·rw[if_pos h5];exact(report_rest _ _ _ _ _ _).2.1
 rw[if_neg h5]
 by_cases h6:c.kind= 6
 ·rw[if_pos h6];exact(expire_rest _ _).2.1
 rw[if_neg h6]
theorem apply_stamp {s:St} {x:WEnt} (h:InI s.stamp) (hx:InI x.stamp):InI (applyS s x).1.stamp:=by
 unfold applyS
 split
 ·exact h
 ·split
  ·exact hx
  ·split
   ·exact hx
   ·rw[doC_stamp];exact hx
abbrev RwE:=WEnt× (Option Addr×Nat)
abbrev cellsRw (x:RwE):List Value:=[.int .i64 x.1.term,.int .i8 x.1.kind,.int .i64 x.1.stamp,B x.1.set,.slice x.2.1 x.1.data.length x.2.2]
abbrev ents (es:List RwE):List WEnt:=es.map Prod.fst
theorem rowsAt {α:Type} {cells:α→ List Value} {size:Nat} (hs:∀x,(cells x).length=size) {w:World} {a:Option Addr} {xs:List α} (h:Row w a (xs.flatMap cells)) {k:Nat} (hk:k< xs.length) (h0:0< size):∃b o,a=some ⟨b,o,none⟩∧∀r,r<size→ w.cell? ⟨b,o+k* size+r,none⟩=(cells xs[k])[r]?:=by
 have hle:k* size+size≤ xs.length*size:= by rw[←Nat.succ_mul];exact Nat.mul_le_mul_right _ hk
 have hl:(xs.flatMap cells).length=xs.length* size:=flatMap_len hs xs
 have h2:k* size<(xs.flatMap cells).length:=by omega
 obtain⟨b,o,ha,hc⟩:=Row.at h h2
 refine⟨b,o,ha,fun r hr=> ?_⟩
 have h3:k* size+r< (xs.flatMap cells).length:=by omega
 have h1:=flatMap_at (cells:=cells) hs (xs:=xs) (i:=k) hr
 rw[List.getElem?_eq_getElem hk,Option.bind_some]at h1
 rw[Nat.add_assoc,hc _ h3,←h1,List.getElem?_eq_getElem h3]
def layRw:Lay Tryz.prog 45 RwE:=Lay.struct cellsRw 5 56 (fun _=>rfl) (by decide) (by decide) (fun x u hu=>by simp at hu;rcases hu with h|h| h|h| h<;>subst h<;>rfl) (by kernel_rfl) _ Tryz.underlying45 rfl
theorem allS_len:∀(l:List WEnt) (s:St),(allS s l).2.length=l.length
 |[],_=>rfl
 |x:: l,s=>by rw[allS,List.length_cons,List.length_cons,allS_len l]
theorem allS_snoc:∀(l:List WEnt) (s:St) (x:WEnt),allS s (l++[x])=((applyS (allS s l).1 x).1,(allS s l).2++[(applyS (allS s l).1 x).2])
 |[],_,_=>rfl
 |y:: l,s,x=>by rw[List.cons_append,allS,allS,allS_snoc l];rfl
theorem allS_small:∀(l:List WEnt) {s:St},Small s→Small (allS s l).1
 |[],_,h=>h
 |x:: l,s,h=>allS_small l (apply_small h x)
theorem allS_stamp:∀(l:List WEnt) {s:St},InI s.stamp→(∀x∈ l,InI x.stamp)→InI (allS s l).1.stamp
 |[],_,h,_=>h
 |x:: l,s,h,hl=>allS_stamp l (apply_stamp h (hl x (by simp))) (fun y hy=>hl y (by simp[hy]))
theorem own_wrote {w w':World} {B k g:Nat} {e:TypeId} {v:Value} {n:Nat} {xs:List Value} (h:w.ownsRow B e k v n xs) (hw:Wrote g w w') (hg:g< B):w'.ownsRow B e k v n xs:=
 h.kept (row:=some g) ⟨(hw.below 0 (Nat.zero_le _)).os,(hw.below 0 (Nat.zero_le _)).tape,(hw.below 0 (Nat.zero_le _)).output,(hw.below 0 (Nat.zero_le _)).size,fun j _ hne=>hw.keep j (fun e=>hne (by rw[e]))⟩
  (by
   cases hv:v.ownBlock with|none=> exact .inl rfl|some b=>exact .inr (fun e=>by have:=(h.lt b hv).1;cases e;omega))
theorem own_next {w w':World} {B k:Nat} {e:TypeId} {v:Value} {n:Nat} {xs:List Value} (h:w.ownsRow B e k v n xs) (hb:Below w.heap.size w w'):w'.ownsRow B e k v n xs:=
 h.kept (row:=none) ⟨hb.os,hb.tape,hb.output,hb.size,fun j hj _=>hb.block j hj⟩ (by cases hv:v.ownBlock<;>simp)
theorem own_wrote2 {w w':World} {B k g:Nat} {e:TypeId} {v:Value} {n:Nat} {xs:List Value} (h:w.ownsRow B e k v n xs) (hw:Wrote g w w') (hg:∀b,v.ownBlock=some b→b< g):w'.ownsRow B e k v n xs:=
 h.kept (row:=some g) ⟨(hw.below 0 (Nat.zero_le _)).os,(hw.below 0 (Nat.zero_le _)).tape,(hw.below 0 (Nat.zero_le _)).output,(hw.below 0 (Nat.zero_le _)).size,fun j _ hne=>hw.keep j (fun e=>hne (by rw[e]))⟩
  (by
   cases hv:v.ownBlock with|none=> exact .inl rfl|some b=>exact .inr (fun e=>by have:=hg b hv;cases e;omega))
section
variable {P:Program} {e:TypeId} {α:Type}
theorem wpList_app1g {ops:Array Oper} {rest:List Oper} {op:Oper} {ac:Act} {w:World} {cs:Array Value} {te:TypeId} {QQ:Exit→ Act→World→ Prop} (L:Lay P e α) {t:TypeId} (ht:P.underlying t=some (.slice e)) (hgd:op.guard= none) (s x:Operand)
 (ho:op.op= .call {callee:= .builtin .append,args:= #[s,x],argTypes:= #[t,t]}) (B:Nat) (a:Option Addr) (n c:Nat) (xs:List α) (hs:ac.eval s= .slice a n c) (hown:w.ownsRow B e L.size (.slice a n c) n (xs.flatMap L.cells))
 (y:α) (hcs:cs.toList= L.cells y) (hx:ac.eval x= .slice (some ⟨w.heap.size,0,none⟩) 1 1) (hby:(n+1)*L.bytes≤ 140737488355328) (hB:B≤ w.heap.size)
 (h:∀a' c' w',w'.ownsRow B e L.size (.slice a' (n+1) c') (n+1) ((xs++[y]).flatMap L.cells)→Below B w w'→(∀j,j<w.heap.size→ (∀b,(Value.slice a n c).ownBlock=some b→j≠ b)→w'.heap[j]? =w.heap[j]?)→wpList P ops QQ rest (ac.put op.dst (.slice a' (n+1) c')) w'):wpList P ops QQ (op::rest) ac (w.alloc (.cells cs te)):=by
 refine wpList_app (L.elem ht) hgd s x ho B (.slice a n c) n _ hs (hown.alloc _) (some ⟨w.heap.size,0,none⟩) 1 1 (L.cells y) hx (by rw[L.len,Nat.one_mul]) (by rw[←hcs];exact Row.new _ _ _ _) (L.one y) hby (Nat.le_trans hB (by simp)) ?_
 intro a' c' w' ho2 hg2
 refine h a' c' w' ?_ (Below.app ((Below.refl B w).alloc hB _) (hown.alloc _) hg2 (Nat.le_trans hB (by simp))) (fun j hj hne=> ?_)
 ·rw[List.flatMap_append,List.flatMap_cons,List.flatMap_nil,List.append_nil]
  exact ho2
 ·rw[hg2.block j (by simp;omega) (fun e=>hne j e.symm rfl),heap_alloc_old w _ hj]
end
def EntIn19 (w:World) (y:RwE):Prop:= RowB w y.2.1 y.1.data∧y.1.data.length≤ y.2.2∧y.1.data.length≤ 8000∧InI y.1.stamp
theorem EntIn19.below {w w':World} {y:RwE} (h:EntIn19 w y) (hb:Below w.heap.size w w'):EntIn19 w' y:=⟨h.1.below hb,h.2⟩
def RetAll (w:World) (r:St× List Ans) (e:Ending) (w':World):Prop:= ∃q a c,e= .returned (.tuple #[Raw.agg q,.slice a r.2.length c])∧StAt w' 0 q r.1∧LRow layAns w' a r.2∧r.2.length≤ c∧Below w.heap.size w w'
set_option maxHeartbeats 8000000 in
theorem all_any (s:St) (r:Raw) (es:List RwE) (a:Option Addr) (n c:Nat) (w:World) (h:StAt w 0 r s) (hsm:Small s) (hi:InI s.stamp) (hn:es.length= n) (hl:n≤ 1000) (hr:LRow layRw w a es) (hes:∀y∈ es,EntIn19 w y):
 Calls Tryz.prog 11 #[r.agg,.slice a n c] w (RetAll w (allS s (ents es))):=by
 subst hn
 obtain⟨hsm1,hsm2,hsm3,hsm4⟩:=hsm
 obtain⟨t1,t2,t3,⟨a1,n1,c1⟩,⟨a2,n2,c2⟩,⟨a3,n3,c3⟩,⟨a4,n4,c4⟩⟩:=r
 have HBx:Hid (Below w.heap.size w ((w.alloc (.cells #[.int .i64 t1,.int .i64 t2,.int .i64 t3,.slice a1 n1 c1,.slice a2 n2 c2,.slice a3 n3 c3,.slice a4 n4 c4] 27)).alloc (.cells #[.int .i64 0,.int .i64 0,.int .i64 0,.slice none 0 0,.slice none 0 0,.slice none 0 0,.slice none 0 0] 27))):=mid_alloc' (mid_alloc' (Below.refl _ _))
 have HGx:Hid (Bex ((w.alloc (.cells #[.int .i64 t1,.int .i64 t2,.int .i64 t3,.slice a1 n1 c1,.slice a2 n2 c2,.slice a3 n3 c3,.slice a4 n4 c4] 27)).alloc (.cells #[.int .i64 0,.int .i64 0,.int .i64 0,.slice none 0 0,.slice none 0 0,.slice none 0 0,.slice none 0 0] 27)) w.heap.size (Raw.cells ⟨t1,t2,t3,⟨a1,n1,c1⟩,⟨a2,n2,c2⟩,⟨a3,n3,c3⟩,⟨a4,n4,c4⟩⟩)):=Bex.of_alloc (w:=w) (mid_alloc' (Below.refl _ _))
 have HRx:Hid (Bex ((w.alloc (.cells #[.int .i64 t1,.int .i64 t2,.int .i64 t3,.slice a1 n1 c1,.slice a2 n2 c2,.slice a3 n3 c3,.slice a4 n4 c4] 27)).alloc (.cells #[.int .i64 0,.int .i64 0,.int .i64 0,.slice none 0 0,.slice none 0 0,.slice none 0 0,.slice none 0 0] 27)) (w.heap.size+1) (Raw.cells ⟨0,0,0,⟨none,0,0⟩,⟨none,0,0⟩,⟨none,0,0⟩,⟨none,0,0⟩⟩)):=by
  have:=Bex.of_alloc (w:=w.alloc (.cells #[.int .i64 t1,.int .i64 t2,.int .i64 t3,.slice a1 n1 c1,.slice a2 n2 c2,.slice a3 n3 c3,.slice a4 n4 c4] 27)) (cs:=Raw.cells ⟨0,0,0,⟨none,0,0⟩,⟨none,0,0⟩,⟨none,0,0⟩,⟨none,0,0⟩⟩) (t:=27) (Below.refl _ ((w.alloc (.cells #[.int .i64 t1,.int .i64 t2,.int .i64 t3,.slice a1 n1 c1,.slice a2 n2 c2,.slice a3 n3 c3,.slice a4 n4 c4] 27)).alloc (.cells #[.int .i64 0,.int .i64 0,.int .i64 0,.slice none 0 0,.slice none 0 0,.slice none 0 0,.slice none 0 0] 27)))
  rw[World.size_alloc]at this;exact this
 have HSx:Hid (StAt ((w.alloc (.cells #[.int .i64 t1,.int .i64 t2,.int .i64 t3,.slice a1 n1 c1,.slice a2 n2 c2,.slice a3 n3 c3,.slice a4 n4 c4] 27)).alloc (.cells #[.int .i64 0,.int .i64 0,.int .i64 0,.slice none 0 0,.slice none 0 0,.slice none 0 0,.slice none 0 0] 27)) 0 ⟨t1,t2,t3,⟨a1,n1,c1⟩,⟨a2,n2,c2⟩,⟨a3,n3,c3⟩,⟨a4,n4,c4⟩⟩ s):=h.below HBx.out
 have HR:=Lib.hid hr
 have HES:=Lib.hid hes
 have HST:Hid (∀k (hk:k< es.length),allS s (ents (es.take (k+1)))=((applyS (allS s (ents (es.take k))).1 es[k].1).1,(allS s (ents (es.take k))).2++[(applyS (allS s (ents (es.take k))).1 es[k].1).2])):=Lib.hid (fun k hk=>by
  rw[List.take_succ_eq_append_getElem hk];unfold ents;rw[List.map_append];exact allS_snoc _ _ _)
 have HLN:Hid (∀k,k≤es.length→ (allS s (ents (es.take k))).2.length=k):=Lib.hid (fun k hk=>by rw[allS_len];simp[ents];omega)
 have HSM:=Lib.hid (fun k=>allS_small (ents (es.take k)) (s:=s) ⟨hsm1,hsm2,hsm3,hsm4⟩)
 have HIS:=Lib.hid (fun k=>allS_stamp (ents (es.take k)) hi (by
  intro x hx
  obtain⟨y,hy,rfl⟩:=List.mem_map.1 hx
  exact(hes y (List.mem_of_mem_take hy)).2.2.2))
 have HAL:Hid (allS s (ents (es.take es.length))=allS s (ents es)):=Lib.hid (by rw[List.take_length])
 generalize allS s (ents es)=res at HAL ⊢
 clear h hr hes hi
 go_enter Tryz.func11,Tryz.ntmps11
 go_upto_region 1 with fail
 obtain⟨w1,hw1⟩:∃y,y=((w.alloc (.cells #[.int .i64 t1,.int .i64 t2,.int .i64 t3,.slice a1 n1 c1,.slice a2 n2 c2,.slice a3 n3 c3,.slice a4 n4 c4] 27)).alloc (.cells #[.int .i64 0,.int .i64 0,.int .i64 0,.slice none 0 0,.slice none 0 0,.slice none 0 0,.slice none 0 0] 27)):=⟨_,rfl⟩
 rw[←hw1]at HBx HGx HRx HSx ⊢
 have hz1:w.heap.size+ 1<w1.heap.size:= HRx.out.lt
 clear hw1
 go_upto_region 2 with(first|((with_reducible refine at_load 27 (.tmp 2) ?_);refine wpList_load_as laySt rfl (.tmp 2) rfl w.heap.size 0 rfl ⟨t1,t2,t3,⟨a1,n1,c1⟩,⟨a2,n2,c2⟩,⟨a3,n3,c3⟩,⟨a4,n4,c4⟩⟩ (.agg #[.int .i64 t1,.int .i64 t2,.int .i64 t3,.slice a1 n1 c1,.slice a2 n2 c2,.slice a3 n3 c3,.slice a4 n4 c4]) rfl HGx.out.box.range ?_)|(go_at_call 22;((with_reducible refine(own_any s _ 0 w1 HSx.out (by omega) (by omega) (by omega) (by omega)).mono ?_);rintro e w2 ⟨⟨q1,q2,q3,⟨l1,j1,i1⟩,⟨l2,j2,i2⟩,⟨l3,j3,i3⟩,⟨l4,j4,i4⟩⟩,rfl,hst,hb⟩;have HN:=Lib.hid (hst.mono (Nat.zero_le _));replace HBx:=Lib.hid (HBx.out.trans (hb.mono HBx.out.size));replace HGx:=Lib.hid (HGx.out.next hb);replace HRx:=Lib.hid (HRx.out.next hb);clear hst hb HSx))|((with_reducible refine at_store 27 (.tmp 2) (.tmp 11) ?_);refine wpList_store_bex laySt rfl (.tmp 2) (.tmp 11) rfl w.heap.size ⟨q1,q2,q3,⟨l1,j1,i1⟩,⟨l2,j2,i2⟩,⟨l3,j3,i3⟩,⟨l4,j4,i4⟩⟩ _ rfl rfl HGx.out rfl ?_;intro w3 hx hw;have HSx:=Lib.hid (HN.out.wrote HGx.out (misfits_st _) hw);replace HBx:=Lib.hid (HBx.out.trans (hw.below _ (Nat.le_refl _)));replace HGx:=Lib.hid hx;replace HRx:=Lib.hid (HRx.out.wrote hw (by omega));clear hx hw HN))
 clear hz1
 have hz3:w.heap.size+ 1<w3.heap.size:= HRx.out.lt
 go_wp2
 go_loopw [6,14] (fun so si wr=>∃k: Nat,∃a' c' q,k≤es.length∧ si= .int .i64 k∧so= .slice a' k c'∧Hid (Bex wr w.heap.size (Raw.cells q))∧Hid (StAt wr 0 q (allS s (ents (es.take k))).1)∧Hid (Bex wr (w.heap.size+1) (Raw.cells ⟨0,0,0,⟨none,0,0⟩,⟨none,0,0⟩,⟨none,0,0⟩,⟨none,0,0⟩⟩))∧
  Hid (wr.ownsRow (w.heap.size+2) 40 layAns.size (.slice a' k c') k ((allS s (ents (es.take k))).2.flatMap layAns.cells))∧Hid (Below w.heap.size w wr)) (fun _ si _=>es.length- (intOf si).toNat)
 case atStart=>exact ⟨0,none,0,⟨q1,q2,q3,⟨l1,j1,i1⟩,⟨l2,j2,i2⟩,⟨l3,j3,i3⟩,⟨l4,j4,i4⟩⟩,by omega,rfl,rfl,HGx,HSx,HRx,World.ownsRow_nil _ _ _ _,HBx⟩
 case round=>
  clear HGx HSx HRx HBx hz3
  obtain⟨k,a',c',⟨q1,q2,q3,⟨l1,j1,i1⟩,⟨l2,j2,i2⟩,⟨l3,j3,i3⟩,⟨l4,j4,i4⟩⟩,hk,rfl,rfl,HGx,HSx,HRx,HOWN,HBx⟩:=hrel
  have hzr:w.heap.size+ 1<wr.heap.size:= HRx.out.lt
  by_cases hlt:k< es.length
  ·obtain⟨b,o,rfl,hcs⟩:=LRow.range HR.out hlt
   have HY:=Lib.hid (hcs wr HBx.out)
   have HYE:=Lib.hid (HES.out es[k] (List.getElem_mem hlt))
   have HSTK:=Lib.hid (HST.out k hlt)
   have hlen0:=HLN.out k hk
   have hsk:=HSM.out k
   have hik:=HIS.out k
   clear hcs
   generalize allS s (ents (es.take k))=cur at HSx HOWN HSTK hlen0 hsk hik
   obtain⟨st,an⟩:=cur
   generalize es[k]=y at HY HYE HSTK
   obtain⟨x,px⟩:=y
   have HAPP:Hid (∀w',Below w.heap.size w w'→StAt w' 0 ⟨q1,q2,q3,⟨l1,j1,i1⟩,⟨l2,j2,i2⟩,⟨l3,j3,i3⟩,⟨l4,j4,i4⟩⟩ st→Calls Tryz.prog 15 #[Raw.agg ⟨q1,q2,q3,⟨l1,j1,i1⟩,⟨l2,j2,i2⟩,⟨l3,j3,i3⟩,⟨l4,j4,i4⟩⟩,valEnt x px] w' (RetSAB w'.heap.size w' (applyS st x))):=Lib.hid (fun w' hb' hq=>apply_any st _ x px w' hq hsk hik HYE.out.2.2.2 (HYE.out.1.below hb') HYE.out.2.1 HYE.out.2.2.1)
   clear HYE hsk hik
   simp only at hlen0
   subst hlen0
   generalize applyS st x=nr at HSTK HAPP
   obtain⟨ns,⟨be,br,bb,bl,bz⟩⟩:=nr
   have HBK:=Lib.hid (fun b hb=>(HOWN.out.lt b hb).2)
   have hby0:(an.length+1)*layAns.bytes≤ 140737488355328:=by show(an.length+1)*40≤ _;omega
   go_upto_region 7 with(first|((with_reducible refine at_load 45 (.tmp 16) ?_);refine wpList_load_as layRw rfl (.tmp 16) rfl b (o+an.length* 5) rfl (x,px) (valEnt x px) rfl (by exact HY.out) ?_)|((with_reducible refine at_store 45 (.tmp 8) (.tmp 17) ?_);refine wpList_store_bex layRw rfl (.tmp 8) (.tmp 17) rfl wr.heap.size (x,px) _ rfl rfl (Bex.new _ _ _) rfl ?_;intro w2 hx hw;have hb:=((Below.refl wr.heap.size wr).alloc (Nat.le_refl _) _).trans (hw.below _ (Nat.le_refl _));have HE:=Lib.hid hx;replace HBx:=Lib.hid (HBx.out.trans (hb.mono HBx.out.size));replace HGx:=Lib.hid (HGx.out.next hb);replace HRx:=Lib.hid (HRx.out.next hb);replace HSx:=Lib.hid (HSx.out.below hb);replace HOWN:=Lib.hid (own_next HOWN.out hb);have hz2:=hb.size;clear hx hw hb))
   obtain⟨w3,hw3⟩:∃y,y=w2.alloc (.cells #[.int .i64 0,.int .i64 0,.int .i64 0,.int .i64 0,.int .i64 0] 40):=⟨_,rfl⟩
   have HA:=Lib.hid (ans_new w2)
   have hb:Below w2.heap.size w2 (w2.alloc (.cells #[.int .i64 0,.int .i64 0,.int .i64 0,.int .i64 0,.int .i64 0] 40)):=(Below.refl _ _).alloc (Nat.le_refl _) _
   rw[←hw3]at HA hb ⊢
   replace HBx:=Lib.hid (HBx.out.trans (hb.mono HBx.out.size))
   replace HGx:=Lib.hid (HGx.out.next hb)
   replace HRx:=Lib.hid (HRx.out.next hb)
   replace HSx:=Lib.hid (HSx.out.below hb)
   replace HOWN:=Lib.hid (own_next HOWN.out hb)
   replace HE:=Lib.hid (HE.out.next hb)
   have hz3:=hb.size
   clear hw3 hb
   go_upto_region 9 with(first|((with_reducible refine at_load 27 (.tmp 2) ?_);refine wpList_load_as laySt rfl (.tmp 2) rfl w.heap.size 0 rfl ⟨q1,q2,q3,⟨l1,j1,i1⟩,⟨l2,j2,i2⟩,⟨l3,j3,i3⟩,⟨l4,j4,i4⟩⟩ (.agg #[.int .i64 q1,.int .i64 q2,.int .i64 q3,.slice l1 j1 i1,.slice l2 j2 i2,.slice l3 j3 i3,.slice l4 j4 i4]) rfl HGx.out.box.range ?_)|((with_reducible refine at_load 45 (.tmp 8) ?_);refine wpList_load_as layRw rfl (.tmp 8) rfl wr.heap.size 0 rfl (x,px) (valEnt x px) rfl HE.out.box.range ?_)|(go_at_call 15;((with_reducible refine(HAPP.out _ HBx.out HSx.out).mono ?_);rintro e w4 ⟨⟨s1,s2,s3,⟨f1,y1,z1⟩,⟨f2,y2,z2⟩,⟨f3,y3,z3⟩,⟨f4,y4,z4⟩⟩,rfl,hst,hb⟩;have HN:=Lib.hid hst;replace HBx:=Lib.hid (HBx.out.trans (hb.mono HBx.out.size));replace HGx:=Lib.hid (HGx.out.next hb);replace HRx:=Lib.hid (HRx.out.next hb);replace HA:=Lib.hid (HA.out.next hb);replace HOWN:=Lib.hid (own_next HOWN.out hb);have hz4:=hb.size;clear hst hb HSx HE HAPP))|((with_reducible refine at_store 27 (.tmp 2) (.tmp 22) ?_);refine wpList_store_bex laySt rfl (.tmp 2) (.tmp 22) rfl w.heap.size ⟨s1,s2,s3,⟨f1,y1,z1⟩,⟨f2,y2,z2⟩,⟨f3,y3,z3⟩,⟨f4,y4,z4⟩⟩ _ rfl rfl HGx.out rfl ?_;intro w5 hx hw;have HSx:=Lib.hid (HN.out.wrote HGx.out (misfits_st _) hw);replace HBx:=Lib.hid (HBx.out.trans (hw.below _ (Nat.le_refl _)));replace HGx:=Lib.hid hx;replace HRx:=Lib.hid (HRx.out.wrote hw (by omega));replace HA:=Lib.hid (HA.out.wrote hw (by omega));replace HOWN:=Lib.hid (own_wrote HOWN.out hw (by omega));clear hx hw HN)|((with_reducible refine at_store 40 (.tmp 9) (.tmp 23) ?_);refine wpList_store_bex layAns rfl (.tmp 9) (.tmp 23) rfl w2.heap.size ⟨be,br,bb,bl,bz⟩ _ rfl rfl HA.out rfl ?_;intro w6 hx hw;replace HSx:=Lib.hid (HSx.out.wrote HA.out (misfits_ans _) hw);replace HBx:=Lib.hid (HBx.out.trans (hw.below _ (by omega)));replace HGx:=Lib.hid (HGx.out.wrote hw (by omega));replace HRx:=Lib.hid (HRx.out.wrote hw (by omega));replace HOWN:=Lib.hid (own_wrote2 HOWN.out hw (fun b hb=>Nat.lt_of_lt_of_le (HBK.out b hb) hz2));replace HA:=Lib.hid hx;clear hx hw)|((with_reducible refine at_load 40 (.tmp 9) ?_);refine wpList_load_as layAns rfl (.tmp 9) rfl w2.heap.size 0 rfl ⟨be,br,bb,bl,bz⟩ (Ans.agg ⟨be,br,bb,bl,bz⟩) rfl HA.out.box.range ?_)|(at_builtin;refine wpList_app1g layAns Tryz.underlying34 rfl (.tmp 24) (.tmp 26) rfl (w.heap.size+2) a' an.length c' an rfl HOWN.out ⟨be,br,bb,bl,bz⟩ rfl rfl hby0 (by have:=HRx.out.lt;omega) ?_;intro a5 c5 w7 hown5 hb5 hg5;have HOWN5:=Lib.hid hown5;have HB5:=Lib.hid hb5;have HG5:=Lib.hid hg5;clear hown5 hb5 hg5))
   go_wp2
   go_roundw
   case rel=>exact ⟨an.length+1,a5,c5,⟨s1,s2,s3,⟨f1,y1,z1⟩,⟨f2,y2,z2⟩,⟨f3,y3,z3⟩,⟨f4,y4,z4⟩⟩,by omega,by go_num,rfl,HGx.out.below HB5.out (by omega),by rw[HSTK.out];exact(StAt.mono (B':=0) (HSx.out.mid (⟨HB5.out.size,fun j h1 h2=>HG5.out j h2 (fun b hb=>Nat.ne_of_gt (Nat.lt_of_lt_of_le (HBK.out b hb) (by omega)))⟩:Mid w3.heap.size w6.heap.size w6 w7) (Nat.le_refl _) (Nat.le_refl _)) (Nat.zero_le _)),HRx.out.below HB5.out (by omega),by rw[HSTK.out];exact HOWN5.out,HBx.out.trans (HB5.out.mono (by omega))⟩
   case measure=>simp [intOf];omega
  ·obtain rfl:k= es.length:=by omega
   rw[HAL.out]at HSx HOWN
   have hlen0:=HLN.out es.length (Nat.le_refl _)
   rw[HAL.out]at hlen0
   obtain⟨rs,ra⟩:=res
   simp only at hlen0 HSx HOWN
   obtain⟨o1,_,_,o4⟩:=own_fullL HOWN.out
   go_wp2_with(first|((with_reducible refine at_load 27 (.tmp 2) ?_);refine wpList_load_as laySt rfl (.tmp 2) rfl w.heap.size 0 rfl ⟨q1,q2,q3,⟨l1,j1,i1⟩,⟨l2,j2,i2⟩,⟨l3,j3,i3⟩,⟨l4,j4,i4⟩⟩ (.agg #[.int .i64 q1,.int .i64 q2,.int .i64 q3,.slice l1 j1 i1,.slice l2 j2 i2,.slice l3 j3 i3,.slice l4 j4 i4]) rfl HGx.out.box.range ?_)|((with_reducible refine at_store 27 (.tmp 4) (.tmp 29) ?_);refine wpList_store_bex laySt rfl (.tmp 4) (.tmp 29) rfl (w.heap.size+1) ⟨q1,q2,q3,⟨l1,j1,i1⟩,⟨l2,j2,i2⟩,⟨l3,j3,i3⟩,⟨l4,j4,i4⟩⟩ _ rfl rfl HRx.out rfl ?_;intro wz hx hw;have HSz:=Lib.hid (HSx.out.wrote HRx.out (misfits_st _) hw);have HRz:=Lib.hid hx;have HWz:=Lib.hid hw;clear hx hw))
   obtain⟨zz0,zz1,zz2,zz3,zz4,zz5,zz6⟩:=cellsSt0 HRz.out.box.range
   refine bodyPost_ret (v:= .tuple #[Raw.agg ⟨q1,q2,q3,⟨l1,j1,i1⟩,⟨l2,j2,i2⟩,⟨l3,j3,i3⟩,⟨l4,j4,i4⟩⟩,.slice a' es.length c']) (by simp[results,Tryz.results11,go_sem,zz0,zz1,zz2,zz3,zz4,zz5,zz6]) rfl ?_
   exact⟨_,a',c',by rw[hlen0],HSz.out,o4.keep (fun j hj hne=>HWz.out.keep j hne) (fun bb oo ss he=>by
    subst he
    have:=(HOWN.out.lt bb rfl).1
    omega),by rw[hlen0];exact o1,HBx.out.trans (HWz.out.below _ (by omega))⟩
def sumD:List RwE→Nat
 |[]=>0
 |y:: es=>y.1.data.length+ sumD es
theorem sumD_take {es:List RwE} {k:Nat} (hk:k< es.length):sumD (es.take (k+1))=sumD (es.take k)+es[k].1.data.length:=by
 induction es generalizing k with
 |nil=> exact absurd hk (Nat.not_lt_zero _)
 |cons y es ih=>
  cases k with
  |zero=> simp[sumD]
  |succ k=>
   rw[List.take_succ_cons,List.take_succ_cons,sumD,sumD,ih (by simpa using hk),List.getElem_cons_succ];omega
def RetEs (w:World) (es:List RwE) (e:Ending) (w':World):Prop:= ∃b: Bool,e= .returned (.bool b)∧w'= w∧(b=false→ es.length≤40∧ sumD es≤8000)
set_option maxHeartbeats 4000000 in
theorem long_any (es:List RwE) (p:Option Addr) (n c:Nat) (w:World) (hn:es.length= n) (he:Row w p (es.flatMap cellsRw)) (hl:∀y∈ es,y.1.data.length≤1000000000000000) (hl2:n≤ 1000000000000000):
 Calls Tryz.prog 8 #[.slice p n c] w (RetEs w es):=by
 have HN:=Lib.hid hn
 have HE:=Lib.hid he
 have HL:=Lib.hid hl
 clear hn he hl
 go_enter Tryz.func8,Tryz.ntmps8
 go_wp2
 go_loopw [3,7] (fun t i wr=>∃k: Nat,k≤n∧ i= .int .i64 k∧Hid (t= .int .i64 (sumD (es.take k):Nat))∧Hid (wr=w)∧Hid (k≤40∧ sumD (es.take k)≤8000)) (fun _ i _=>n- (intOf i).toNat)
 case atStart=>exact ⟨0,by omega,rfl,rfl,rfl,by show _∧_;simp[sumD]⟩
 case round=>
  obtain⟨k,hk,rfl,ht,hw,HS⟩:=hrel
  have ht2:=ht.out
  have hw2:=hw.out
  subst ht2 hw2
  clear ht hw
  by_cases hlt:k< n
  ·have h1:k< es.length:=by rw[HN.out];exact hlt
   obtain⟨b,o,hp,hc⟩:=rowsAt (cells:=cellsRw) (size:=5) (fun _=>rfl) HE.out h1 (by decide)
   have q4:=hc 4 (by decide)
   have HST:=Lib.hid (sumD_take h1)
   have hdl:=HL.out _ (List.getElem_mem h1)
   generalize es[k]'h1=x at q4 HST hdl
   obtain⟨⟨v0,v1,v2,v3,v4⟩,⟨r0,r1⟩⟩:=x
   rw[show(cellsRw ((⟨v0,v1,v2,v3,v4⟩,(r0,r1)):RwE))[4]? =some (.slice r0 v4.length r1)from rfl]at q4
   simp only at hdl
   have HPP:=Lib.hid hp
   clear hc h1
   have hs1:=HS.out.1
   have hs2:=HS.out.2
   have hd:decide (k<n)=true:= decide_eq_true hlt
   have HST2:Hid (sumD (es.take (k+1))=sumD (es.take k)+v4.length):=HST
   clear HST
   generalize sumD (es.take k)=T at hs2 HST2 HS ⊢
   have ew:IntKind.i64.wrap ((T:Int)+v4.length)=T+ v4.length:=IntWalk.i64_in _ (by omega)
   subst hp
   by_cases h40:40≤ k
   ·have d1:decide ((40:Int)≤k)=true:= decide_eq_true (by omega)
    go_wp2
    go_ret
    exact⟨true,rfl,rfl,fun h=>by cases h⟩
   ·have d1:decide ((40:Int)≤k)=false:= decide_eq_false (by omega)
    by_cases hb:8000< T+v4.length
    ·have d2:decide ((8000:Int)<(T:Int)+v4.length)=true:= decide_eq_true (by omega)
     go_wp2
     go_ret
     exact⟨true,rfl,rfl,fun h=>by cases h⟩
    ·have d2:decide ((8000:Int)<(T:Int)+v4.length)=false:= decide_eq_false (by omega)
     go_wp2
     exact⟨⟨k+1,by omega,by go_num,by(show _=_);rw[HST2.out];simp,(by first|exact trivial|exact rfl),by(show _∧_);rw[HST2.out];omega⟩,by simp[intOf];omega⟩
  ·obtain rfl:k= n:=by omega
   have hd:decide (k<k)=false:= decide_eq_false (by omega)
   go_wp2
   go_ret
   refine⟨false,rfl,rfl,fun _=> ?_⟩
   have h:=HS.out
   rw[List.take_of_length_le (by rw[HN.out];exact Nat.le_refl _)]at h
   exact⟨by rw[HN.out];exact h.1,h.2⟩
def RetGr19 (w:World) (s:St) (e:Ending) (w':World):Prop:= ∃b: Bool,e= .returned (.bool b)∧Below w.heap.size w w'∧(b=false→ s.tens.length+s.leas.length+ s.sess.length+s.dsks.length≤ 300)
set_option maxHeartbeats 2000000 in
theorem great19_any (s:St) (r:Raw) (B:Nat) (w:World) (h:StAt w B r s) (hl1:s.tens.length≤ 1000000000000000) (hl2:s.leas.length≤ 1000000000000000) (hl3:s.sess.length≤ 1000000000000000) (hl4:s.dsks.length≤ 1000000000000000):
 Calls Tryz.prog 7 #[r.agg] w (RetGr19 w s):=by
 obtain⟨term,stamp,next,⟨a1,n1,c1⟩,⟨a2,n2,c2⟩,⟨a3,n3,c3⟩,⟨a4,n4,c4⟩⟩:=r
 have h1:s.tens.length= n1:=h.ten.len
 have h2:s.leas.length= n2:=h.lea.len
 have h3:s.sess.length= n3:=h.ses.len
 have h4:s.dsks.length= n4:=h.dsk.len
 have HG:Hid (∀b: Bool,(b=false→ n1+n2+ n3+n4≤ 300)→(b=false→ s.tens.length+s.leas.length+ s.sess.length+s.dsks.length≤ 300)):=Lib.hid (fun b hb he=>by have:=hb he;omega)
 have e1:IntKind.i64.wrap ((n1:Int)+n2)=n1+ n2:=IntWalk.i64_in _ (by omega)
 have e2:IntKind.i64.wrap ((n1:Int)+n2+ n3)=n1+ n2+n3:= IntWalk.i64_in _ (by omega)
 have e3:IntKind.i64.wrap ((n1:Int)+n2+ n3+n4)=n1+ n2+n3+ n4:=IntWalk.i64_in _ (by omega)
 unfold RetGr19
 clear h h1 h2 h3 h4 hl1 hl2 hl3 hl4
 by_cases g:300< n1+n2+ n3+n4
 ·have d:decide ((300:Int)<(n1:Int)+n2+ n3+n4)=true:= decide_eq_true (by omega)
  go_enter Tryz.func7,Tryz.ntmps7
  go_wp2
  go_returns
  exact⟨true,rfl,belo,HG.out true (fun h=>by cases h)⟩
 ·have d:decide ((300:Int)<(n1:Int)+n2+ n3+n4)=false:= decide_eq_false (by omega)
  go_enter Tryz.func7,Tryz.ntmps7
  go_wp2
  go_returns
  exact⟨false,rfl,belo,HG.out false (fun _=>by omega)⟩
theorem slice_few {H:Type} {enc:TypeId× Value→H} {P:Program} {w:World} {t e:TypeId} {a:Option Addr} {n c:Nat} (ht:P.underlying t=some (.slice e)) (hb:1≤ P.bytesOf e) (h:Rd enc P w t [.slice a n c]):n≤ 1000000000000000:=by
 rcases h.slice ht with h1|⟨x,l,c',h1,hl,hm,hby,hel⟩
 ·simp at h1;omega
 ·simp at h1
  obtain⟨rfl,rfl,rfl⟩:=h1
  have:c≤ c*P.bytesOf e:=Nat.le_mul_of_pos_right _ hb
  unfold reachBytes at hby
  omega
theorem open_stateB {H:Type} {enc:TypeId× Value→H} {w:World} {cs:List Value} (h:Rd enc Tryz.prog w 27 cs):∃(r:Raw) (s:St),cs=r.cells∧ StAt w 0 r s∧InI s.term∧InI s.stamp∧InI s.next∧s.tens.length≤ 1000000000000000∧s.leas.length≤ 1000000000000000∧s.sess.length≤ 1000000000000000∧s.dsks.length≤ 1000000000000000:=by
 obtain⟨hl,hf⟩:=h.struct Tryz.underlying27
 have hn:Tryz.prog.cellsOf 27=7:= by kernel_rfl
 have z_int:Tryz.prog.cellsOf 3=1:= by kernel_rfl
 have z_ten:Tryz.prog.cellsOf 22=1:= by kernel_rfl
 have z_lea:Tryz.prog.cellsOf 23=1:= by kernel_rfl
 have z_ses:Tryz.prog.cellsOf 24=1:= by kernel_rfl
 have z_dsk:Tryz.prog.cellsOf 25=1:= by kernel_rfl
 rw[hn]at hl
 match cs,hl with
 |[v0,v1,v2,v3,v4,v5,v6],_=>
  have f0:Rd enc Tryz.prog w 3 ((([v0,v1,v2,v3,v4,v5,v6]:List Value).drop 0).take (Tryz.prog.cellsOf 3)):=hf 0 _ rfl
  rw[z_int]at f0
  replace f0:Rd enc Tryz.prog w 3 [v0]:=f0
  obtain⟨x0,e0,g0⟩:=f0.int Tryz.underlying3
  replace g0:=bounds_i64 g0
  have f1:Rd enc Tryz.prog w 3 ((([v0,v1,v2,v3,v4,v5,v6]:List Value).drop 1).take (Tryz.prog.cellsOf 3)):=hf 1 _ rfl
  rw[z_int]at f1
  replace f1:Rd enc Tryz.prog w 3 [v1]:=f1
  obtain⟨x1,e1,g1⟩:=f1.int Tryz.underlying3
  replace g1:=bounds_i64 g1
  have f2:Rd enc Tryz.prog w 3 ((([v0,v1,v2,v3,v4,v5,v6]:List Value).drop 2).take (Tryz.prog.cellsOf 3)):=hf 2 _ rfl
  rw[z_int]at f2
  replace f2:Rd enc Tryz.prog w 3 [v2]:=f2
  obtain⟨x2,e2,g2⟩:=f2.int Tryz.underlying3
  replace g2:=bounds_i64 g2
  have f3:Rd enc Tryz.prog w 22 ((([v0,v1,v2,v3,v4,v5,v6]:List Value).drop 3).take (Tryz.prog.cellsOf 22)):=hf 3 _ rfl
  rw[z_ten]at f3
  replace f3:Rd enc Tryz.prog w 22 [v3]:=f3
  obtain⟨a3,n3,c3,rfl⟩:=one_slice Tryz.underlying22 f3
  obtain⟨ts,l3,k3,z3,r3⟩:=open_tenants f3
  have b3:=slice_few Tryz.underlying22 (by rw[show Tryz.prog.bytesOf 75=40 by kernel_rfl];decide) f3
  have f4:Rd enc Tryz.prog w 23 ((([v0,v1,v2,(Value.slice a3 n3 c3),v4,v5,v6]:List Value).drop 4).take (Tryz.prog.cellsOf 23)):=hf 4 _ rfl
  rw[z_lea]at f4
  replace f4:Rd enc Tryz.prog w 23 [v4]:=f4
  obtain⟨a4,n4,c4,rfl⟩:=one_slice Tryz.underlying23 f4
  obtain⟨ls,l4,k4,m4,z4,r4⟩:=open_leas f4
  have b4:=slice_few Tryz.underlying23 (by rw[show Tryz.prog.bytesOf 59=56 by kernel_rfl];decide) f4
  have f5:Rd enc Tryz.prog w 24 ((([v0,v1,v2,(Value.slice a3 n3 c3),(Value.slice a4 n4 c4),v5,v6]:List Value).drop 5).take (Tryz.prog.cellsOf 24)):=hf 5 _ rfl
  rw[z_ses]at f5
  replace f5:Rd enc Tryz.prog w 24 [v5]:=f5
  obtain⟨a5,n5,c5,rfl⟩:=one_slice Tryz.underlying24 f5
  obtain⟨ss,l5,k5,m5,z5,r5⟩:=open_sess f5
  have b5:=slice_few Tryz.underlying24 (by rw[show Tryz.prog.bytesOf 92=56 by kernel_rfl];decide) f5
  have f6:Rd enc Tryz.prog w 25 ((([v0,v1,v2,(Value.slice a3 n3 c3),(Value.slice a4 n4 c4),(Value.slice a5 n5 c5),v6]:List Value).drop 6).take (Tryz.prog.cellsOf 25)):=hf 6 _ rfl
  rw[z_dsk]at f6
  replace f6:Rd enc Tryz.prog w 25 [v6]:=f6
  obtain⟨a6,n6,c6,rfl⟩:=one_slice Tryz.underlying25 f6
  obtain⟨ds,l6,k6,m6,z6,r6⟩:=open_dsks f6
  have b6:=slice_few Tryz.underlying25 (by rw[show Tryz.prog.bytesOf 66=64 by kernel_rfl];decide) f6
  simp only[List.cons.injEq,and_true]at e0 e1 e2
  subst e0
  subst e1
  subst e2
  exact⟨⟨x0,x1,x2,⟨a3,n3,c3⟩,⟨a4,n4,c4⟩,⟨a5,n5,c5⟩,⟨a6,n6,c6⟩⟩,⟨x0,x1,x2,ts,ls,ss,ds⟩,rfl,⟨rfl,rfl,rfl,⟨l3,k3,z3,fun b _ _ _=> .inl (Nat.zero_le b),r3⟩,⟨l4,k4,z4,fun b _ _ _=> .inl (Nat.zero_le b),r4⟩,⟨l5,k5,z5,fun b _ _ _=> .inl (Nat.zero_le b),r5⟩,⟨⟨l6,k6,z6,fun b _ _ _=> .inl (Nat.zero_le b),r6⟩,fun h=>absurd h (by omega),fun h=>absurd h (by omega)⟩⟩,by unfold InI;simp only;omega,by unfold InI;simp only;omega,by unfold InI;simp only;omega,by rw[l3];exact b3,by rw[l4];exact b4,by rw[l5];exact b5,by rw[l6];exact b6⟩
theorem open_rwl {H:Type} {enc:TypeId× Value→H} {w:World} {cs:List Value} (h:Rd enc Tryz.prog w 45 cs):∃x: RwE,cs=cellsRw x∧RowB w x.2.1 x.1.data∧x.1.data.length≤ x.2.2∧x.1.data.length≤ 1000000000000000∧InI x.1.stamp:=by
 obtain⟨hl,hf⟩:=h.struct Tryz.underlying45
 rw[show Tryz.prog.cellsOf 45=5 by kernel_rfl]at hl
 match cs,hl with
 |[v0,v1,v2,v3,v4],_=>
  have f0:Rd enc Tryz.prog w 3 ((([v0,v1,v2,v3,v4]:List Value).drop 0).take (Tryz.prog.cellsOf 3)):=hf 0 _ rfl
  rw[show Tryz.prog.cellsOf 3=1 by kernel_rfl]at f0
  replace f0:Rd enc Tryz.prog w 3 [v0]:=f0
  have f1:Rd enc Tryz.prog w 42 ((([v0,v1,v2,v3,v4]:List Value).drop 1).take (Tryz.prog.cellsOf 42)):=hf 1 _ rfl
  rw[show Tryz.prog.cellsOf 42=1 by kernel_rfl]at f1
  replace f1:Rd enc Tryz.prog w 42 [v1]:=f1
  have f2:Rd enc Tryz.prog w 3 ((([v0,v1,v2,v3,v4]:List Value).drop 2).take (Tryz.prog.cellsOf 3)):=hf 2 _ rfl
  rw[show Tryz.prog.cellsOf 3=1 by kernel_rfl]at f2
  replace f2:Rd enc Tryz.prog w 3 [v2]:=f2
  have f3:Rd enc Tryz.prog w 5 ((([v0,v1,v2,v3,v4]:List Value).drop 3).take (Tryz.prog.cellsOf 5)):=hf 3 _ rfl
  rw[show Tryz.prog.cellsOf 5=1 by kernel_rfl]at f3
  replace f3:Rd enc Tryz.prog w 5 [v3]:=f3
  have f4:Rd enc Tryz.prog w 43 ((([v0,v1,v2,v3,v4]:List Value).drop 4).take (Tryz.prog.cellsOf 43)):=hf 4 _ rfl
  rw[show Tryz.prog.cellsOf 43=1 by kernel_rfl]at f4
  replace f4:Rd enc Tryz.prog w 43 [v4]:=f4
  obtain⟨x0,e0,g0⟩:=f0.int Tryz.underlying3
  replace g0:=bounds_i64 g0
  simp only[List.cons.injEq,and_true]at e0
  subst e0
  obtain⟨x1,e1,g1⟩:=f1.int Tryz.underlying42
  replace g1:=bounds_i8 g1
  simp only[List.cons.injEq,and_true]at e1
  subst e1
  obtain⟨x2,e2,g2⟩:=f2.int Tryz.underlying3
  replace g2:=bounds_i64 g2
  simp only[List.cons.injEq,and_true]at e2
  subst e2
  obtain⟨x3,e3,g3⟩:=f3.int Tryz.underlying5
  replace g3:=bounds_u8 g3
  have u3:Value.int .u8 x3=B (UInt8.ofNat x3.toNat):=by unfold B;rw[UInt8.toNat_ofNat'];congr 1;omega
  simp only[List.cons.injEq,and_true]at e3
  subst e3
  have hs4:∃a n c,v4= .slice a n c:=by
   rcases f4.slice Tryz.underlying43 with h1|⟨a,n,c,h1,_⟩
   ·simp at h1;exact⟨_,_,_,h1⟩
   ·simp at h1;exact⟨_,_,_,h1⟩
  obtain⟨a4,n4,c4,rfl⟩:=hs4
  obtain⟨l4,m4,nc4,cm4,bb4,z4,r4⟩:=f4.bytes Tryz.underlying43 Tryz.underlying5 (by kernel_rfl)
  rw[show Tryz.prog.bytesOf 5=1 by kernel_rfl]at bb4
  subst m4
  have hh:l4.length≤ 1000000000000000:=by unfold reachBytes at bb4;omega
  exact⟨(⟨x0,x1,x2,UInt8.ofNat x3.toNat,l4⟩,(a4,c4)),by unfold cellsRw;rw[←u3],r4,nc4,hh,by unfold InI;simp only;omega⟩
theorem open_ents {H:Type} {enc:TypeId× Value→H} {w:World} {a:Option Addr} {n c:Nat} (h:Rd enc Tryz.prog w 28 [.slice a n c]):∃es: List RwE,es.length=n∧ n≤1000000000000000∧ (∀y∈ es,RowB w y.2.1 y.1.data∧y.1.data.length≤ y.2.2∧y.1.data.length≤ 1000000000000000∧InI y.1.stamp)∧LRow layRw w a es:=by
 obtain⟨l2,m2,nc2,cm2,bb2,z2,g2,r2⟩:=Rd.rows (α:=RwE) (cells:=cellsRw) (size:=5) (good:=fun y=>RowB w y.2.1 y.1.data∧y.1.data.length≤ y.2.2∧y.1.data.length≤ 1000000000000000∧InI y.1.stamp) (fun _=>rfl) (by decide) Tryz.underlying28 (by kernel_rfl) (fun cs hcs=>open_rwl hcs) h
 rw[show Tryz.prog.bytesOf 45=56 by kernel_rfl]at bb2
 exact⟨l2,m2,by unfold reachBytes at bb2;omega,g2,r2⟩
theorem sumD_each {es:List RwE}:∀y∈ es,y.1.data.length≤sumD es:=by
 induction es with
 |nil=> exact fun y h=>by cases h
 |cons x es ih=>
  intro y hy
  rw[sumD]
  rcases List.mem_cons.1 hy with rfl|h
  ·omega
  ·have:=ih y h;omega
def RetEn (w:World) (x:WEnt) (e:Ending) (w':World):Prop:= ∃px: PEnt,e= .returned (valEnt x px)∧RowB w' px.1 x.data∧x.data.length≤ px.2∧Below w.heap.size w w'
theorem row_two {w w':World} {a:Option Addr} {bs:List UInt8} {g:Nat} (h:RowB w a bs) (h2:2≤ bs.length) (hb:Bex w g [.int .i64 0,.int .i8 0,.int .i64 0,.int .u8 0,.slice none 0 0]) (hw:Wrote g w w'):RowB w' a bs:=by
 rcases h with h|⟨b,o,rfl,hc⟩
 ·exact .inl h
 ·have hne:b≠ g:=by
   intro e
   subst e
   have c0:=hc 0 (by simp;omega)
   have c1:=hc 1 (by simp;omega)
   rw[hb.cell']at c0 c1
   rw[List.getElem_map]at c0 c1
   unfold B at c0 c1
   match o,c0,c1 with
   |0,c0,_=>simp at c0
   |1,c0,_=>simp at c0
   |2,c0,_=>simp at c0
   |3,_,c1=>simp at c1
   |4,c0,_=>simp at c0
   |n+ 5,c0,_=>simp at c0
  exact .inr ⟨b,o,rfl,fun i hi=>(World.cell?_of_block (hw.keep b hne)).trans (hc i hi)⟩
theorem enc_two (c:WCmd):2≤ (encWCmd c).length:=by unfold encWCmd;simp only[List.length_append,be8_length,List.length_cons];omega
set_option maxHeartbeats 4000000 in
theorem entry19 (st:Int) (c:WCmd) (w:World) (hc:c.leases= []) (hg:OkCmd c):
 Calls Tryz.prog 19 #[.int .i64 st,valCmd c (none,0)] w (RetEn w ⟨1,2,st,0,encWCmd c⟩):=by
 have HCB:Hid (∀w',Calls Tryz.prog 38 #[valCmd c (none,0)] w' (RetBC w' (encWCmd c))):=Lib.hid (fun w'=>command_bytes c (none,0) w' ⟨by rw[hc];exact⟨Row.nil _ _,fun h=>absurd rfl h⟩⟩ hg)
 have HBx:Hid (Below w.heap.size w ((w.alloc (.cells #[.int .i8 c.kind,.int .i64 c.client,.int .i64 c.number,.int .i64 c.tenant,.int .i64 c.rate,.int .i64 c.burst,.int .i64 c.shaper,.int .i64 c.epoch,.int .i64 c.lease,.int .i64 c.size,.int .i64 c.spent,.bool c.closed,.slice none c.leases.length 0] 54)).alloc (.cells #[.int .i64 0,.int .i8 0,.int .i64 0,.int .u8 0,.slice none 0 0] 45))):=mid_alloc' (mid_alloc' (Below.refl _ _))
 have HCx:Hid (Bex ((w.alloc (.cells #[.int .i8 c.kind,.int .i64 c.client,.int .i64 c.number,.int .i64 c.tenant,.int .i64 c.rate,.int .i64 c.burst,.int .i64 c.shaper,.int .i64 c.epoch,.int .i64 c.lease,.int .i64 c.size,.int .i64 c.spent,.bool c.closed,.slice none c.leases.length 0] 54)).alloc (.cells #[.int .i64 0,.int .i8 0,.int .i64 0,.int .u8 0,.slice none 0 0] 45)) w.heap.size (cellsCmd c (none,0))):=Bex.of_alloc (w:=w) (mid_alloc' (Below.refl _ _))
 have HEx:Hid (Bex ((w.alloc (.cells #[.int .i8 c.kind,.int .i64 c.client,.int .i64 c.number,.int .i64 c.tenant,.int .i64 c.rate,.int .i64 c.burst,.int .i64 c.shaper,.int .i64 c.epoch,.int .i64 c.lease,.int .i64 c.size,.int .i64 c.spent,.bool c.closed,.slice none c.leases.length 0] 54)).alloc (.cells #[.int .i64 0,.int .i8 0,.int .i64 0,.int .u8 0,.slice none 0 0] 45)) (w.heap.size+1) [.int .i64 0,.int .i8 0,.int .i64 0,.int .u8 0,.slice none 0 0]):=by
  have:=Bex.new (w.alloc (.cells #[.int .i8 c.kind,.int .i64 c.client,.int .i64 c.number,.int .i64 c.tenant,.int .i64 c.rate,.int .i64 c.burst,.int .i64 c.shaper,.int .i64 c.epoch,.int .i64 c.lease,.int .i64 c.size,.int .i64 c.spent,.bool c.closed,.slice none c.leases.length 0] 54)) [.int .i64 0,.int .i8 0,.int .i64 0,.int .u8 0,.slice none 0 0] 45
  rw[World.size_alloc]at this;exact this
 unfold valCmd at HCB ⊢
 have H2:=Lib.hid (enc_two c)
 generalize encWCmd c=bs at HCB H2 ⊢
 clear hc hg
 go_enter Tryz.func19,Tryz.ntmps19
 go_wp2_with(first|((with_reducible refine at_load 54 (.tmp 3) ?_);refine wpList_load_as layCmd rfl (.tmp 3) rfl w.heap.size 0 rfl (c,(none,0)) (.agg #[.int .i8 c.kind,.int .i64 c.client,.int .i64 c.number,.int .i64 c.tenant,.int .i64 c.rate,.int .i64 c.burst,.int .i64 c.shaper,.int .i64 c.epoch,.int .i64 c.lease,.int .i64 c.size,.int .i64 c.spent,.bool c.closed,.slice none c.leases.length 0]) rfl HCx.out.box.range ?_)|(go_at_call 38;((with_reducible refine(HCB.out _).mono ?_);rintro e w2 ⟨a,k,rfl,h1,hb,h2⟩;have HRB:=Lib.hid (And.intro h1 h2);replace HBx:=Lib.hid (HBx.out.trans (hb.mono HBx.out.size));replace HEx:=Lib.hid (HEx.out.next hb);clear hb h1 h2 HCx HCB))|((with_reducible refine at_store 45 (.tmp 4) (.tmp 8) ?_);refine wpList_store_bex layRw rfl (.tmp 4) (.tmp 8) rfl (w.heap.size+1) (⟨1,2,st,0,bs⟩,(a,k)) _ rfl rfl HEx.out rfl ?_;intro w3 hx hw;have HX:=Lib.hid hx;have HW:=Lib.hid hw;have HR3:=Lib.hid (row_two HRB.out.1 H2.out HEx.out hw);clear hx hw))
 have z0:=HX.out.box.cell (j:=0) rfl
 have z1:=HX.out.box.cell (j:=1) rfl
 have z2:=HX.out.box.cell (j:=2) rfl
 have z3:=HX.out.box.cell (j:=3) rfl
 have z4:=HX.out.box.cell (j:=4) rfl
 simp only at z0 z1 z2 z3 z4
 refine bodyPost_ret (v:=valEnt ⟨1,2,st,0,bs⟩ (a,k)) (by simp[results,Tryz.results19,valEnt,go_sem,z0,z1,z2,z3,z4]) rfl ?_
 have hb:=HW.out.below (w.heap.size+1) (Nat.le_refl _)
 have hsz:=HEx.out.lt
 exact⟨(a,k),rfl,HR3.out,HRB.out.2,HBx.out.trans (hb.mono (by omega))⟩
def tokB (ts:List Tenant) (id:Int):Int:= match ts.find? (fun x=>x.id== id)with|some t=>t.bucket| none=>0
theorem tok_clos (x:Tenant) (g:Nat) (id:Int) (w:World) (hg:Bex w g [.int .i64 id]):
 Calls Tryz.prog 40 #[x.agg,.pointer (some ⟨g,0,none⟩)] w fun e w'=>e= .returned (.bool (x.id==id))∧Below w.heap.size w w':=by
 obtain⟨i,r,b,u,gn⟩:=x
 have HB:Hid (Below w.heap.size w (w.alloc (.cells #[.int .i64 i,.int .i64 r,.int .i64 b,.int .i64 u,.bool gn] 75))):=mid_alloc' (Below.refl _ _)
 have hgb:=(hg.next HB.out).box.cell (j:=0) rfl
 clear hg
 go_enter Tryz.func40,Tryz.ntmps40
 go_wp2
 go_returns
 exact⟨rfl,HB.out⟩
theorem enter_tok (args:Array Value) (w:World):(callFunc 40 args).run Tryz.prog w= .ok (.enter 40 args) w:=by kernel_rfl
theorem tok_idx (ts:List Tenant) (id:Int):(idxL (fun x=>x.id== id) ts= -1∧ tokB ts id=0)∨∃k,∃hk: k<ts.length,idxL (fun x=>x.id== id) ts=k∧ tokB ts id=ts[k].bucket:=by
 unfold tokB
 rcases idxL_find (fun x:Tenant=> x.id==id) ts with⟨h1,h2⟩|⟨k,hk,h1,h2⟩
 ·exact .inl ⟨h1,by rw[h2]⟩
 ·exact .inr ⟨k,hk,h1,by rw[h2]⟩
theorem cellsTenO {w:World} {b o:Nat} {t:Tenant} (h:w.rangeAt b o (layTen.cells t)):w.cell? ⟨b,o,none⟩=some (.int .i64 t.id)∧w.cell? ⟨b,o+1,none⟩=some (.int .i64 t.rate)∧w.cell? ⟨b,o+2,none⟩=some (.int .i64 t.burst)∧w.cell? ⟨b,o+3,none⟩=some (.int .i64 t.bucket)∧w.cell? ⟨b,o+4,none⟩=some (.bool t.gone):=⟨h 0 _ rfl,h 1 _ rfl,h 2 _ rfl,h 3 _ rfl,h 4 _ rfl⟩
set_option maxHeartbeats 4000000 in
theorem tokens_any (s:St) (r:Raw) (B:Nat) (id:Int) (w:World) (h:StAt w B r s) (hf:Fits s.leas) (hl1:s.tens.length≤ 900) (hl2:s.leas.length≤ 900) (hid:(Lit.int .i64 id).wf=true):
 Calls Tryz.prog 20 #[r.agg,.int .i64 id] w fun e w'=>e= .returned (.tuple #[.int .i64 (tokB s.tens id),.int .i64 (outL s.leas id)])∧Below w.heap.size w w':=by
 have hmf:∀(fn:Fn) (first cap:Array Value) (w:World),(Instr.makeFunc fn first cap).run Tryz.prog w= .ok (.func fn first cap) w:=fun _ _ _ _=>rfl
 have HOU:=Lib.hid (fun w' hs'=>out_any s r B id w' hs' hf hl2 hid)
 have HS:=Lib.hid h
 have hn:=h.ten.len
 have HTI:=Lib.hid (tok_idx s.tens id)
 have HIX:Hid (∀(w':World) (g:Nat),Below w.heap.size w w'→Bex w' g [.int .i64 id]→Calls Tryz.prog 39 #[.slice r.ten.a r.ten.n r.ten.c,.func (.func 40) #[] #[.pointer (some ⟨g,0,none⟩)]] w' fun e w''=>e= .returned (.int .i64 (idxL (fun x=>x.id== id) s.tens))∧Below w'.heap.size w' w''):=
  Lib.hid (fun w' g hb hg=>indexFuncTen s.tens r.ten.a r.ten.n r.ten.c _ _ (fun x=>x.id== id) w' hn (by unfold maxLen;omega) (h.ten.row.below hb) enter_tok (fun x _ w'' hb2=>tok_clos x g id w'' (hg.next hb2)))
 have HTR:=Lib.hid (fun(w':World) (hb:Below w.heap.size w w')=>h.ten.row.below hb)
 generalize idxL (fun x=>x.id== id) s.tens=ix at HTI HIX
 generalize tokB s.tens id=res at HTI ⊢
 generalize outL s.leas id=ou at HOU ⊢
 obtain⟨term,stamp,next,⟨a1,n1,c1⟩,⟨a2,n2,c2⟩,⟨a3,n3,c3⟩,⟨a4,n4,c4⟩⟩:=r
 simp only at hn
 subst hn
 have HBx:Hid (Below w.heap.size w ((w.alloc (.cells #[.int .i64 term,.int .i64 stamp,.int .i64 next,.slice a1 s.tens.length c1,.slice a2 n2 c2,.slice a3 n3 c3,.slice a4 n4 c4] 27)).alloc (.cells #[.int .i64 id] 3))):=mid_alloc' (mid_alloc' (Below.refl _ _))
 have HGx:Hid (Bex ((w.alloc (.cells #[.int .i64 term,.int .i64 stamp,.int .i64 next,.slice a1 s.tens.length c1,.slice a2 n2 c2,.slice a3 n3 c3,.slice a4 n4 c4] 27)).alloc (.cells #[.int .i64 id] 3)) w.heap.size (Raw.cells ⟨term,stamp,next,⟨a1,s.tens.length,c1⟩,⟨a2,n2,c2⟩,⟨a3,n3,c3⟩,⟨a4,n4,c4⟩⟩)):=Bex.of_alloc (w:=w) (mid_alloc' (Below.refl _ _))
 have HIx:Hid (Bex ((w.alloc (.cells #[.int .i64 term,.int .i64 stamp,.int .i64 next,.slice a1 s.tens.length c1,.slice a2 n2 c2,.slice a3 n3 c3,.slice a4 n4 c4] 27)).alloc (.cells #[.int .i64 id] 3)) (w.heap.size+1) [.int .i64 id]):=by
  have:=Bex.new (w.alloc (.cells #[.int .i64 term,.int .i64 stamp,.int .i64 next,.slice a1 s.tens.length c1,.slice a2 n2 c2,.slice a3 n3 c3,.slice a4 n4 c4] 27)) [.int .i64 id] 3
  rw[World.size_alloc]at this;exact this
 clear h hf hid
 go_enter Tryz.func20,Tryz.ntmps20
 go_upto_region 1 with fail
 obtain⟨w1,hw1⟩:∃y,y=((w.alloc (.cells #[.int .i64 term,.int .i64 stamp,.int .i64 next,.slice a1 s.tens.length c1,.slice a2 n2 c2,.slice a3 n3 c3,.slice a4 n4 c4] 27)).alloc (.cells #[.int .i64 id] 3)):=⟨_,rfl⟩
 rw[←hw1]at HBx HGx HIx ⊢
 clear hw1
 have g3:=HGx.out.box.cell (j:=3) rfl
 go_upto_region 2 with(go_at_call 39;((with_reducible refine(HIX.out w1 _ HBx.out HIx.out).mono ?_);rintro e w2 ⟨rfl,hb⟩;replace HBx:=Lib.hid (HBx.out.trans (hb.mono HBx.out.size));replace HGx:=Lib.hid (HGx.out.next hb);replace HIx:=Lib.hid (HIx.out.next hb);clear hb HIX g3))
 (try simp only[Act.put])
 have g3:=HGx.out.box.cell (j:=3) rfl
 have i0:=HIx.out.box.cell (j:=0) rfl
 rcases HTI.out with⟨rfl,rfl⟩|⟨k,hk,rfl,rfl⟩
 ·go_wp2_with(first|((with_reducible refine at_load 27 (.tmp 2) ?_);refine wpList_load_as laySt rfl (.tmp 2) rfl w.heap.size 0 rfl ⟨term,stamp,next,⟨a1,s.tens.length,c1⟩,⟨a2,n2,c2⟩,⟨a3,n3,c3⟩,⟨a4,n4,c4⟩⟩ (Raw.agg ⟨term,stamp,next,⟨a1,s.tens.length,c1⟩,⟨a2,n2,c2⟩,⟨a3,n3,c3⟩,⟨a4,n4,c4⟩⟩) rfl HGx.out.box.range ?_)|(go_at_call 41;((with_reducible refine(HOU.out w2 (HS.out.below HBx.out)).mono ?_);rintro e w3 ⟨rfl,hb⟩;replace HBx:=Lib.hid (HBx.out.trans (hb.mono HBx.out.size));clear hb)))
  go_returns
  exact⟨rfl,HBx.out⟩
 ·obtain⟨b,o,rfl,hcs⟩:=LRow.range (HTR.out w2 HBx.out) hk
  have HRG:=Lib.hid (hcs w2 (Below.refl _ _))
  clear hcs
  generalize heq:s.tens[k]=t at HRG
  have HEQ:=Lib.hid heq
  clear heq
  obtain⟨i,r,bu,u,gn⟩:=t
  obtain⟨y0,y1,y2,y3,y4⟩:=cellsTenO HRG.out
  clear y0 y1 y2 y4
  replace y3:w2.cell? ⟨b,o+k* 5+3,none⟩=some (.int .i64 u):=y3
  have hkd:decide ((0:Int)≤(k:Int))=true:= decide_eq_true (by omega)
  go_wp2_with(first|((with_reducible refine at_load 27 (.tmp 2) ?_);refine wpList_load_as laySt rfl (.tmp 2) rfl w.heap.size 0 rfl ⟨term,stamp,next,⟨some ⟨b,o,none⟩,s.tens.length,c1⟩,⟨a2,n2,c2⟩,⟨a3,n3,c3⟩,⟨a4,n4,c4⟩⟩ (Raw.agg ⟨term,stamp,next,⟨some ⟨b,o,none⟩,s.tens.length,c1⟩,⟨a2,n2,c2⟩,⟨a3,n3,c3⟩,⟨a4,n4,c4⟩⟩) rfl HGx.out.box.range ?_)|(go_at_call 41;((with_reducible refine(HOU.out w2 (HS.out.below HBx.out)).mono ?_);rintro e w3 ⟨rfl,hb⟩;replace HBx:=Lib.hid (HBx.out.trans (hb.mono HBx.out.size));clear hb)))
  go_returns
  exact⟨by rw[HEQ.out];rfl,HBx.out⟩
def newR:Raw:= ⟨0,0,1,⟨none,0,0⟩,⟨none,0,0⟩,⟨none,0,0⟩,⟨none,0,0⟩⟩
theorem newR_at (w:World):StAt w 0 newR newS:=
 ⟨rfl,rfl,rfl,⟨rfl,Nat.le_refl _,fun _=>rfl,Near.nil _ _,.inl rfl⟩,⟨rfl,Nat.le_refl _,fun _=>rfl,Near.nil _ _,.inl rfl⟩,⟨rfl,Nat.le_refl _,fun _=>rfl,Near.nil _ _,.inl rfl⟩,
  ⟨⟨rfl,Nat.le_refl _,fun _=>rfl,Near.nil _ _,.inl rfl⟩,fun h=>absurd h (by omega),fun h=>absurd h (by omega)⟩⟩
theorem new_any (w:World):Calls Tryz.prog 10 #[] w (RetSt w 0 newS):=by
 have HZ:Hid (Bex (w.alloc (.cells #[.int .i64 0,.int .i64 0,.int .i64 0,.slice none 0 0,.slice none 0 0,.slice none 0 0,.slice none 0 0] 27)) w.heap.size (Raw.cells ⟨0,0,0,⟨none,0,0⟩,⟨none,0,0⟩,⟨none,0,0⟩,⟨none,0,0⟩⟩)):=Bex.new w _ _
 have HB:Hid (Below w.heap.size w (w.alloc (.cells #[.int .i64 0,.int .i64 0,.int .i64 0,.slice none 0 0,.slice none 0 0,.slice none 0 0,.slice none 0 0] 27))):=(Below.refl _ _).alloc (Nat.le_refl _) _
 go_enter Tryz.func10,Tryz.ntmps10
 go_wp2_with((with_reducible refine at_store 27 (.tmp 0) (.tmp 1) ?_);refine wpList_store_bex laySt rfl (.tmp 0) (.tmp 1) rfl w.heap.size newR _ rfl rfl HZ.out rfl ?_;intro w2 hx hw;have HX:=Lib.hid hx;have HW:=Lib.hid hw;clear hx hw)
 obtain⟨k0,k1,k2,k3,k4,k5,k6⟩:=cellsSt0 HX.out.box.range
 simp only[newR]at k0 k1 k2 k3 k4 k5 k6
 refine bodyPost_ret (v:=Raw.agg newR) (by simp[results,Tryz.results10,newR,go_sem,k0,k1,k2,k3,k4,k5,k6]) rfl ?_
 exact⟨newR,rfl,newR_at _,HB.out.trans (HW.out.below _ (Nat.le_refl _))⟩
end Go.Proofs.YtfdmhpohfjbpfaaGreat
