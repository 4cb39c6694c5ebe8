import Derived.Test.YtfdmhpohfjbpfaaGreatSrStaApGo
set_option linter.unusedVariables false
set_option linter.unusedSimpArgs false
namespace Go.Proofs.YtfdmhpohfjbpfaaGreat
open Go.ChangeShapes Go.WideShapes Go.ChangeAt Go.RowKit
set_option maxRecDepth 100000
set_option maxHeartbeats 16000000
theorem zC{s:St}{x:iD}(h:bX s=false∨ x.term<1∨ x.ag<0∨ x.kind<0∨ 2<x.kind):eT s x=(s,bS.err 2):=by unfold eT;rw[if_pos h]
theorem KM(s:St)(r:Raw)(x:iD)(px:tF)(w:World)(h:aX w 0 r s)(hsm:Small s)(hi1:eo s.ag)(hi2:eo x.ag)(hd:iu w px.1 x.data)(uw:x.data.length≤ px.2)(UR:x.data.length≤ 8000):
 Calls Tryz.prog 15 #[r.agg,fw x px] w (iC w.heap.size w (eT s x)):=by
 by_cases hb:bX s=false∨ x.term<1∨ x.ag<0∨ x.kind<0∨ 2<x.kind
 ·rw[zC hb];exact KN s r x px w h hsm hb
 ·have hk:bX s=true:= by
   cases hq:bX s with
   |true=> rfl
   |false=> exact absurd (.inl hq) hb
  exact H9 s r x px w h hsm hk o_ o_ o_ o_ hi1 hi2 hd uw UR
theorem pJ{f:St→ cR→St× bS}{s:St}{c:cR}(h:(f s c).1.ag=s.ag):(eF f s c).1.ag=s.ag:= by
 unfold eF;by_cases h1:(mr s.cd c.aA c.number).2.2≠0
 ·rw[if_pos h1]
 ·rw[if_neg h1];by_cases h2:(mr s.cd c.aA c.number).2.1=false
  ·rw[if_pos h2]
  ·rw[if_neg h2];exact h
theorem DV(s:St)(c:cR):(fF s c).1.ag=s.ag:= by
 have hg:(gf s c).1.ag=s.ag:= (mU _ _ _ _ _ _).2.1;unfold fF;by_cases h1:dI c
 ·rw[if_pos h1]
 ·rw[if_neg h1];cases fN bR.ak s.aP c.ak with
  |none=> exact hg
  |some d=>
   simp only;by_cases h2:iU c d
   ·rw[if_pos h2]
   ·rw[if_neg h2];by_cases h3:ia c d
    ·rw[if_pos h3]
    ·rw[if_neg h3];exact hg
theorem K0(s:St)(c:cR):(EM s c).1.ag=s.ag:= by
 unfold EM;by_cases h1:c.kind= 1
 ·rw[if_pos h1];exact pJ rfl
 rw[if_neg h1];by_cases h2:c.kind= 2
 ·rw[if_pos h2];exact pJ rfl
 rw[if_neg h2];by_cases h3:c.kind= 3
 ·rw[if_pos h3];exact pJ rfl
 rw[if_neg h3];by_cases h4:c.kind= 4
 ·rw[if_pos h4];exact DV s c
 rw[if_neg h4];by_cases h5:c.kind= 5
 ·rw[if_pos h5];exact(xQ _ _ _ _ _ _).2.1
 rw[if_neg h5];by_cases h6:c.kind= 6
 ·rw[if_pos h6];exact(xy _ _).2.1
 rw[if_neg h6]
theorem Fa{s:St}{x:iD}(h:eo s.ag)(hx:eo x.ag):eo (eT s x).1.ag:=by
 unfold eT
 split
 ·exact h
 ·split
  ·exact hx
  ·split
   ·exact hx
   ·rw[K0];exact hx
abbrev EL:=iD× (Option Addr×Nat)
abbrev pI(x:EL):List Value:=(cW x.1.term x.1.kind x.1.ag x.1.set x.2.1 x.1.data.length x.2.2)
abbrev gL(es:List EL):List iD:=es.map Prod.fst
theorem Vr{α:Type}{cells:α→ List Value}{size:Nat}(hs:∀x,(cells x).length=size){w:World}{a:Option Addr}{xs:List α}(h:Row w a (xs.flatMap cells)){k:Nat}(hk:k< xs.length)(h0:0< size):∃b o,a=some ⟨b,o,none⟩∧∀r,r<size→ w.cell? ⟨b,o+k* size+r,none⟩=(cells xs[k])[r]?:=by
 have hle:k* size+size≤ xs.length*size:= by rw[←Nat.succ_mul];exact Nat.mul_le_mul_right _ hk
 have hl:(xs.flatMap cells).length=xs.length* size:=kg hs xs;have h2:k* size<(xs.flatMap cells).length:=o_;obtain⟨b,o,ha,hc⟩:=Row.at h h2;refine⟨b,o,ha,fun r hr=> ?_⟩;have h3:k* size+r< (xs.flatMap cells).length:=o_;have h1:=lh (cells:=cells) hs (xs:=xs) (i:=k) hr;rw[List.getElem?_eq_getElem hk,Option.bind_some]at h1;rw[Nat.add_assoc,hc _ h3,←h1,List.getElem?_eq_getElem h3]
def rF:iW Tryz.prog 45 EL:=iW.struct pI 5 56 (fun _=>rfl) d_ d_ (fun x u hu=>by simp at hu;rcases hu with h|h| h|h| h<;>subst h<;>rfl) k_ _ Tryz.underlying45 rfl
theorem rf:∀(l:List iD) (s:St),(fV s l).2.length=l.length
 |[],_=>rfl
 |x:: l,s=>by rw[fV,List.length_cons,List.length_cons,rf l]
theorem vW:∀(l:List iD) (s:St) (x:iD),fV s (l++[x])=((eT (fV s l).1 x).1,(fV s l).2++[(eT (fV s l).1 x).2])
 |[],_,_=>rfl
 |y:: l,s,x=>by rw[List.cons_append,fV,fV,vW l];rfl
theorem mO:∀(l:List iD) {s:St},Small s→Small (fV s l).1
 |[],_,h=>h
 |x:: l,s,h=>mO l (E9 h x)
theorem tO:∀(l:List iD) {s:St},eo s.ag→(∀x∈ l,eo x.ag)→eo (fV s l).1.ag
 |[],_,h,_=>h
 |x:: l,s,h,hl=>tO l (Fa h (hl x (by simp))) (fun y hy=>hl y (by simp[hy]))
theorem C6{w w':World}{B k g:Nat}{e:TypeId}{v:Value}{n:Nat}{xs:List Value}(h:w.ownsRow B e k v n xs)(hw:dt g w w')(hg:g< B):w'.ownsRow B e k v n xs:=
 h.kept (row:=some g) ⟨(hw.below 0 (Nat.zero_le _)).os,(hw.below 0 (Nat.zero_le _)).tape,(hw.below 0 (Nat.zero_le _)).output,(hw.below 0 (Nat.zero_le _)).size,fun j _ hne=>hw.bY j (fun e=>hne (by rw[e]))⟩
  (by
   cases hv:v.ownBlock with|none=> exact .inl rfl|some b=>exact .inr (fun e=>by have:=(h.lt b hv).1;cases e;omega))
theorem fq{w w':World}{B k:Nat}{e:TypeId}{v:Value}{n:Nat}{xs:List Value}(h:w.ownsRow B e k v n xs)(hb:Below w.heap.size w w'):w'.ownsRow B e k v n xs:=
 h.kept (row:=none) ⟨hb.os,hb.tape,hb.output,hb.size,fun j hj _=>hb.block j hj⟩ (by cases hv:v.ownBlock<;>simp)
theorem mZ{w w':World}{B k g:Nat}{e:TypeId}{v:Value}{n:Nat}{xs:List Value}(h:w.ownsRow B e k v n xs)(hw:dt g w w')(hg:∀b,v.ownBlock=some b→b< g):w'.ownsRow B e k v n xs:=
 h.kept (row:=some g) ⟨(hw.below 0 (Nat.zero_le _)).os,(hw.below 0 (Nat.zero_le _)).tape,(hw.below 0 (Nat.zero_le _)).output,(hw.below 0 (Nat.zero_le _)).size,fun j _ hne=>hw.bY j (fun e=>hne (by rw[e]))⟩
  (by
   cases hv:v.ownBlock with|none=> exact .inl rfl|some b=>exact .inr (fun e=>by have:=hg b hv;cases e;omega))
section
variable {P:Program} {e:TypeId} {α:Type}
theorem vI{ops:Array Oper}{rest:List Oper}{op:Oper}{ac:Act}{w:World}{cs:Array Value}{te:TypeId}{QQ:Exit→ Act→World→ Prop}(L:iW P e α){t:TypeId}(ht:P.underlying t=some (.slice e))(hgd:op.guard= none)(s x:Operand)(ho:op.op= .call {callee:= .builtin .append,args:= #[s,x],argTypes:= #[t,t]})(B:Nat)(a:Option Addr)(n c:Nat)(xs:List α)(hs:ac.eval s= .slice a n c)(hown:w.ownsRow B e L.size (.slice a n c) n (xs.flatMap L.cells))(y:α)(hcs:cs.toList= L.cells y)(hx:ac.eval x= .slice (some ⟨w.heap.size,0,none⟩) 1 1)(hby:(n+1)*L.bytes≤ 140737488355328)(hB:B≤ w.heap.size)(h:∀a' c' w',w'.ownsRow B e L.size (.slice a' (n+1) c') (n+1) ((xs++[y]).flatMap L.cells)→Below B w w'→(∀j,j<w.heap.size→ (∀b,(Value.slice a n c).ownBlock=some b→j≠ b)→w'.heap[j]? =w.heap[j]?)→wpList P ops QQ rest (ac.put op.dst (.slice a' (n+1) c')) w'):wpList P ops QQ (op::rest) ac (w.alloc (.cells cs te)):=by
 refine eX (L.elem ht) hgd s x ho B (.slice a n c) n _ hs (hown.alloc _) (some ⟨w.heap.size,0,none⟩) 1 1 (L.cells y) hx (by rw[L.len,Nat.one_mul]) (by rw[←hcs];exact Row.new _ _ _ _) (L.one y) hby (Nat.le_trans hB (by simp)) ?_;intro a' c' w' py hg2;refine h a' c' w' ?_ (Below.app ((Below.refl B w).alloc hB _) (hown.alloc _) hg2 (Nat.le_trans hB (by simp))) (fun j hj hne=> ?_)
 ·rw[List.flatMap_append,List.flatMap_cons,List.flatMap_nil,List.append_nil];exact py
 ·rw[hg2.block j (by simp;omega) (fun e=>hne j e.symm rfl),heap_alloc_old w _ hj]
end
def ky(w:World)(y:EL):Prop:= iu w y.2.1 y.1.data∧y.1.data.length≤ y.2.2∧y.1.data.length≤ 8000∧eo y.1.ag
theorem ky.below{w w':World}{y:EL}(h:ky w y)(hb:Below w.heap.size w w'):ky w' y:=⟨h.1.below hb,h.2⟩
def tG(w:World)(r:St× List bS)(e:Ending)(w':World):Prop:= ∃q a c,e= .returned (.tuple #[Raw.agg q,.slice a r.2.length c])∧aX w' 0 q r.1∧bF bA w' a r.2∧r.2.length≤ c∧Below w.heap.size w w'
theorem DC(s:St)(r:Raw)(es:List EL)(a:Option Addr)(n c:Nat)(w:World)(h:aX w 0 r s)(hsm:Small s)(hi:eo s.ag)(hn:es.length= n)(hl:n≤ 1000)(hr:bF rF w a es)(hes:∀y∈ es,ky w y):
 Calls Tryz.prog 11 #[r.agg,.slice a n c] w (tG w (fV s (gL es))):=by
 subst hn;obtain⟨nU,nV,nW,mW⟩:=hsm;obtain⟨t1,t2,t3,⟨a1,n1,c1⟩,⟨a2,n2,c2⟩,⟨a3,n3,c3⟩,⟨a4,n4,c4⟩⟩:=r;have aF:Hid (Below w.heap.size w ((w.alloc (.cells (aw t1 t2 t3 a1 n1 c1 a2 n2 c2 a3 n3 c3 a4 n4 c4) 27)).alloc (.cells aS 27))):=ah (ah b_);have aQ:Hid (ct ((w.alloc (.cells (aw t1 t2 t3 a1 n1 c1 a2 n2 c2 a3 n3 c3 a4 n4 c4) 27)).alloc (.cells aS 27)) w.heap.size (Raw.cells ⟨t1,t2,t3,⟨a1,n1,c1⟩,⟨a2,n2,c2⟩,⟨a3,n3,c3⟩,⟨a4,n4,c4⟩⟩)):=ct.aR (w:=w) (ah b_);have bT:Hid (ct ((w.alloc (.cells (aw t1 t2 t3 a1 n1 c1 a2 n2 c2 a3 n3 c3 a4 n4 c4) 27)).alloc (.cells aS 27)) (w.heap.size+1) (Raw.cells ⟨0,0,0,⟨none,0,0⟩,⟨none,0,0⟩,⟨none,0,0⟩,⟨none,0,0⟩⟩)):=by
  have:=ct.aR (w:=w.alloc (.cells (aw t1 t2 t3 a1 n1 c1 a2 n2 c2 a3 n3 c3 a4 n4 c4) 27)) (cs:=Raw.cells ⟨0,0,0,⟨none,0,0⟩,⟨none,0,0⟩,⟨none,0,0⟩,⟨none,0,0⟩⟩) (t:=27) (Below.refl _ ((w.alloc (.cells (aw t1 t2 t3 a1 n1 c1 a2 n2 c2 a3 n3 c3 a4 n4 c4) 27)).alloc (.cells aS 27)));rw[World.size_alloc]at this;exact this
 have bq:Hid (aX ((w.alloc (.cells (aw t1 t2 t3 a1 n1 c1 a2 n2 c2 a3 n3 c3 a4 n4 c4) 27)).alloc (.cells aS 27)) 0 ⟨t1,t2,t3,⟨a1,n1,c1⟩,⟨a2,n2,c2⟩,⟨a3,n3,c3⟩,⟨a4,n4,c4⟩⟩ s):=h.below aF.out;have HR:=h_ hr;have HES:=h_ hes
 have HST:Hid (∀k (hk:k< es.length),fV s (gL (es.take (k+1)))=((eT (fV s (gL (es.take k))).1 es[k].1).1,(fV s (gL (es.take k))).2++[(eT (fV s (gL (es.take k))).1 es[k].1).2])):=h_ (fun k hk=>by
  rw[List.take_succ_eq_append_getElem hk];unfold gL;rw[List.map_append];exact vW _ _ _)
 have CA:Hid (∀k,k≤es.length→ (fV s (gL (es.take k))).2.length=k):=h_ (fun k hk=>by rw[rf];simp[gL];omega);have Mz:=h_ (fun k=>mO (gL (es.take k)) (s:=s) ⟨nU,nV,nW,mW⟩)
 have HIS:=h_ (fun k=>tO (gL (es.take k)) hi (by
  intro x hx;obtain⟨y,hy,rfl⟩:=List.mem_map.1 hx
  exact(hes y (List.mem_of_mem_take hy)).2.2.2))
 have vN:Hid (fV s (gL (es.take es.length))=fV s (gL es)):=h_ (by rw[List.take_length]);generalize fV s (gL es)=res at vN ⊢;clear h hr hes hi;go_enter Tryz.func11,Tryz.ntmps11;go_upto_region 1 with fail;obtain⟨w1,hw1⟩:∃y,y=((w.alloc (.cells (aw t1 t2 t3 a1 n1 c1 a2 n2 c2 a3 n3 c3 a4 n4 c4) 27)).alloc (.cells aS 27)):=⟨_,rfl⟩;rw[←hw1]at aF aQ bT bq ⊢;have hz1:w.heap.size+ 1<w1.heap.size:= bT.lt;clear hw1;go_upto_region 2 with(first|((with_reducible refine bC 27 (.tmp 2) ?_);refine aa aG rfl (.tmp 2) rfl w.heap.size 0 rfl ⟨t1,t2,t3,⟨a1,n1,c1⟩,⟨a2,n2,c2⟩,⟨a3,n3,c3⟩,⟨a4,n4,c4⟩⟩ (.agg (aw t1 t2 t3 a1 n1 c1 a2 n2 c2 a3 n3 c3 a4 n4 c4)) rfl aQ.box.range ?_)|(go_at_call 22;((with_reducible refine(yT s _ 0 w1 bq.out o_ o_ o_ o_).mono ?_);rintro e w2 ⟨⟨q1,q2,q3,⟨l1,j1,i1⟩,⟨l2,j2,i2⟩,⟨l3,j3,i3⟩,⟨l4,j4,i4⟩⟩,rfl,hst,hb⟩;have HN:=h_ (hst.mono (Nat.zero_le _));replace aF:=h_ (aF.trans (hb.mono aF.size));replace aQ:=h_ (aQ.next hb);replace bT:=h_ (bT.next hb);clear hst hb bq))|((with_reducible refine aO 27 (.tmp 2) (.tmp 11) ?_);refine au aG rfl (.tmp 2) (.tmp 11) rfl w.heap.size ⟨q1,q2,q3,⟨l1,j1,i1⟩,⟨l2,j2,i2⟩,⟨l3,j3,i3⟩,⟨l4,j4,i4⟩⟩ _ rfl rfl aQ.out rfl ?_;intro w3 hx hw;have bq:=h_ (HN.wrote aQ.out (bB _) hw);replace aF:=h_ (aF.trans (hw.below _ n_));replace aQ:=h_ hx;replace bT:=h_ (bT.wrote hw o_);clear hx hw HN));clear hz1;have hz3:w.heap.size+ 1<w3.heap.size:= bT.lt;go_wp2
 go_loopw [6,14] (fun so si wr=>∃k: Nat,∃a' c' q,k≤es.length∧ si= .int .i64 k∧so= .slice a' k c'∧Hid (ct wr w.heap.size (Raw.cells q))∧Hid (aX wr 0 q (fV s (gL (es.take k))).1)∧Hid (ct wr (w.heap.size+1) (Raw.cells ⟨0,0,0,⟨none,0,0⟩,⟨none,0,0⟩,⟨none,0,0⟩,⟨none,0,0⟩⟩))∧
  Hid (wr.ownsRow (w.heap.size+2) 40 bA.size (.slice a' k c') k ((fV s (gL (es.take k))).2.flatMap bA.cells))∧Hid (Below w.heap.size w wr)) (fun _ si _=>es.length- (intOf si).toNat)
 case atStart=>exact ⟨0,none,0,⟨q1,q2,q3,⟨l1,j1,i1⟩,⟨l2,j2,i2⟩,⟨l3,j3,i3⟩,⟨l4,j4,i4⟩⟩,by omega,rfl,rfl,aQ,bq,bT,World.ownsRow_nil _ _ _ _,aF⟩
 case round=>
  clear aQ bq bT aF hz3;obtain⟨k,a',c',⟨q1,q2,q3,⟨l1,j1,i1⟩,⟨l2,j2,i2⟩,⟨l3,j3,i3⟩,⟨l4,j4,i4⟩⟩,hk,rfl,rfl,aQ,bq,bT,HOWN,aF⟩:=hrel;have Vc:w.heap.size+ 1<wr.heap.size:= bT.lt;by_cases hlt:k< es.length
  ·obtain⟨b,o,rfl,hcs⟩:=bF.range HR.out hlt;have HY:=h_ (hcs wr aF.out);have KC:=h_ (HES es[k] (List.getElem_mem hlt));have zr:=h_ (HST k hlt);have gg:=CA.out k hk;have hsk:=Mz.out k;have hik:=HIS.out k;clear hcs;generalize fV s (gL (es.take k))=cur at bq HOWN zr gg hsk hik;obtain⟨st,an⟩:=cur;generalize es[k]=y at HY KC zr;obtain⟨x,px⟩:=y;have zf:Hid (∀w',Below w.heap.size w w'→aX w' 0 ⟨q1,q2,q3,⟨l1,j1,i1⟩,⟨l2,j2,i2⟩,⟨l3,j3,i3⟩,⟨l4,j4,i4⟩⟩ st→Calls Tryz.prog 15 #[Raw.agg ⟨q1,q2,q3,⟨l1,j1,i1⟩,⟨l2,j2,i2⟩,⟨l3,j3,i3⟩,⟨l4,j4,i4⟩⟩,fw x px] w' (iC w'.heap.size w' (eT st x))):=h_ (fun w' hb' hq=>KM st _ x px w' hq hsk hik KC.2.2.2 (KC.1.below hb') KC.2.1 KC.2.2.1);clear KC hsk hik;simp only at gg;subst gg;generalize eT st x=nr at zr zf;obtain⟨ns,⟨be,br,bb,bl,bz⟩⟩:=nr;have SD:=h_ (fun b hb=>(HOWN.lt b hb).2);have tU:(an.length+1)*bA.bytes≤ 140737488355328:=by show(an.length+1)*40≤ _;omega
   go_upto_region 7 with(first|((with_reducible refine bC 45 (.tmp 16) ?_);refine aa rF rfl (.tmp 16) rfl b (o+an.length* 5) rfl (x,px) (fw x px) rfl (by exact HY.out) ?_)|((with_reducible refine aO 45 (.tmp 8) (.tmp 17) ?_);refine au rF rfl (.tmp 8) (.tmp 17) rfl wr.heap.size (x,px) _ rfl rfl (ct.new _ _ _) rfl ?_;intro w2 hx hw;have hb:=((Below.refl wr.heap.size wr).alloc n_ _).trans (hw.below _ n_);have HE:=h_ hx;replace aF:=h_ (aF.trans (hb.mono aF.size));replace aQ:=h_ (aQ.next hb);replace bT:=h_ (bT.next hb);replace bq:=h_ (bq.below hb);replace HOWN:=h_ (fq HOWN.out hb);have hz2:=hb.size;clear hx hw hb));obtain⟨w3,hw3⟩:∃y,y=w2.alloc (.cells dB 40):=⟨_,rfl⟩;have HA:=h_ (dY w2);have hb:Below w2.heap.size w2 (w2.alloc (.cells dB 40)):=b_.alloc n_ _;rw[←hw3]at HA hb ⊢;replace aF:=h_ (aF.trans (hb.mono aF.size));replace aQ:=h_ (aQ.next hb);replace bT:=h_ (bT.next hb);replace bq:=h_ (bq.below hb);replace HOWN:=h_ (fq HOWN.out hb);replace HE:=h_ (HE.next hb);have hz3:=hb.size;clear hw3 hb;go_upto_region 9 with(first|((with_reducible refine bC 27 (.tmp 2) ?_);refine aa aG rfl (.tmp 2) rfl w.heap.size 0 rfl ⟨q1,q2,q3,⟨l1,j1,i1⟩,⟨l2,j2,i2⟩,⟨l3,j3,i3⟩,⟨l4,j4,i4⟩⟩ (.agg (aw q1 q2 q3 l1 j1 i1 l2 j2 i2 l3 j3 i3 l4 j4 i4)) rfl aQ.box.range ?_)|((with_reducible refine bC 45 (.tmp 8) ?_);refine aa rF rfl (.tmp 8) rfl wr.heap.size 0 rfl (x,px) (fw x px) rfl HE.box.range ?_)|(go_at_call 15;((with_reducible refine(zf.out _ aF.out bq.out).mono ?_);rintro e w4 ⟨⟨s1,s2,s3,⟨f1,y1,z1⟩,⟨f2,y2,z2⟩,⟨f3,y3,z3⟩,⟨f4,y4,z4⟩⟩,rfl,hst,hb⟩;have HN:=h_ hst;replace aF:=h_ (aF.trans (hb.mono aF.size));replace aQ:=h_ (aQ.next hb);replace bT:=h_ (bT.next hb);replace HA:=h_ (HA.next hb);replace HOWN:=h_ (fq HOWN.out hb);have MD:=hb.size;clear hst hb bq HE zf))|((with_reducible refine aO 27 (.tmp 2) (.tmp 22) ?_);refine au aG rfl (.tmp 2) (.tmp 22) rfl w.heap.size ⟨s1,s2,s3,⟨f1,y1,z1⟩,⟨f2,y2,z2⟩,⟨f3,y3,z3⟩,⟨f4,y4,z4⟩⟩ _ rfl rfl aQ.out rfl ?_;intro w5 hx hw;have bq:=h_ (HN.wrote aQ.out (bB _) hw);replace aF:=h_ (aF.trans (hw.below _ n_));replace aQ:=h_ hx;replace bT:=h_ (bT.wrote hw o_);replace HA:=h_ (HA.wrote hw o_);replace HOWN:=h_ (C6 HOWN.out hw o_);clear hx hw HN)|((with_reducible refine aO 40 (.tmp 9) (.tmp 23) ?_);refine au bA rfl (.tmp 9) (.tmp 23) rfl w2.heap.size ⟨be,br,bb,bl,bz⟩ _ rfl rfl HA.out rfl ?_;intro w6 hx hw;replace bq:=h_ (bq.wrote HA.out (bj _) hw);replace aF:=h_ (aF.trans (hw.below _ o_));replace aQ:=h_ (aQ.wrote hw o_);replace bT:=h_ (bT.wrote hw o_);replace HOWN:=h_ (mZ HOWN.out hw (fun b hb=>Nat.lt_of_lt_of_le (SD b hb) hz2));replace HA:=h_ hx;clear hx hw)|((with_reducible refine bC 40 (.tmp 9) ?_);refine aa bA rfl (.tmp 9) rfl w2.heap.size 0 rfl ⟨be,br,bb,bl,bz⟩ (bS.agg ⟨be,br,bb,bl,bz⟩) rfl HA.box.range ?_)|(at_builtin;refine vI bA Tryz.underlying34 rfl (.tmp 24) (.tmp 26) rfl (w.heap.size+2) a' an.length c' an rfl HOWN.out ⟨be,br,bb,bl,bz⟩ rfl rfl tU (by have:=bT.lt;omega) ?_;intro a5 c5 w7 ij cv S7;have qW:=h_ ij;have kO:=h_ cv;have Mv:=h_ S7;clear ij cv S7));go_wp2;go_roundw
   case rel=>exact ⟨an.length+1,a5,c5,⟨s1,s2,s3,⟨f1,y1,z1⟩,⟨f2,y2,z2⟩,⟨f3,y3,z3⟩,⟨f4,y4,z4⟩⟩,by omega,by go_num,rfl,aQ.below kO.out o_,by rw[zr.out];exact(aX.mono (B':=0) (bq.eH (⟨kO.size,fun j h1 h2=>Mv.out j h2 (fun b hb=>Nat.ne_of_gt (Nat.lt_of_lt_of_le (SD b hb) o_))⟩:cx w3.heap.size w6.heap.size w6 w7) n_ n_) (Nat.zero_le _)),bT.below kO.out o_,by rw[zr.out];exact qW.out,aF.trans (kO.mono o_)⟩
   case measure=>simp [intOf];omega
  ·obtain rfl:k= es.length:=o_;rw[vN.out]at bq HOWN;have gg:=CA.out es.length n_;rw[vN.out]at gg;obtain⟨rs,ra⟩:=res;simp only at gg bq HOWN;obtain⟨o1,_,_,o4⟩:=oZ HOWN.out;go_wp2_with(first|((with_reducible refine bC 27 (.tmp 2) ?_);refine aa aG rfl (.tmp 2) rfl w.heap.size 0 rfl ⟨q1,q2,q3,⟨l1,j1,i1⟩,⟨l2,j2,i2⟩,⟨l3,j3,i3⟩,⟨l4,j4,i4⟩⟩ (.agg (aw q1 q2 q3 l1 j1 i1 l2 j2 i2 l3 j3 i3 l4 j4 i4)) rfl aQ.box.range ?_)|((with_reducible refine aO 27 (.tmp 4) (.tmp 29) ?_);refine au aG rfl (.tmp 4) (.tmp 29) rfl (w.heap.size+1) ⟨q1,q2,q3,⟨l1,j1,i1⟩,⟨l2,j2,i2⟩,⟨l3,j3,i3⟩,⟨l4,j4,i4⟩⟩ _ rfl rfl bT.out rfl ?_;intro wz hx hw;have Qh:=h_ (bq.wrote bT.out (bB _) hw);have Qg:=h_ hx;have XB:=h_ hw;clear hx hw));obtain⟨qK,qL,qM,qN,qO,qP,qQ⟩:=bP Qg.box.range;refine bodyPost_ret (v:= .tuple #[Raw.agg ⟨q1,q2,q3,⟨l1,j1,i1⟩,⟨l2,j2,i2⟩,⟨l3,j3,i3⟩,⟨l4,j4,i4⟩⟩,.slice a' es.length c']) (by simp[results,Tryz.results11,go_sem,qK,qL,qM,qN,qO,qP,qQ]) rfl ?_
   exact⟨_,a',c',by rw[gg],Qh.out,o4.bY (fun j hj hne=>XB.bY j hne) (fun bb oo ss he=>by
    subst he;have:=(HOWN.lt bb rfl).1
    omega),by rw[gg];exact o1,aF.trans (XB.below _ o_)⟩
def qJ:List EL→Nat
 |[]=>0
 |y:: es=>y.1.data.length+ qJ es
theorem Mk{es:List EL}{k:Nat}(hk:k< es.length):qJ (es.take (k+1))=qJ (es.take k)+es[k].1.data.length:=by
 induction es generalizing k with
 |nil=> exact absurd hk (Nat.not_lt_zero _)
 |cons y es ih=>
  cases k with
  |zero=> simp[qJ]
  |succ k=>
   rw[List.take_succ_cons,List.take_succ_cons,qJ,qJ,ih (by simpa using hk),List.getElem_cons_succ];omega
def XL(w:World)(es:List EL)(e:Ending)(w':World):Prop:= ∃b: Bool,e= .returned (.bool b)∧w'= w∧(b=false→ es.length≤40∧ qJ es≤8000)
theorem OS(es:List EL)(p:Option Addr)(n c:Nat)(w:World)(hn:es.length= n)(he:Row w p (es.flatMap pI))(hl:∀y∈ es,y.1.data.length≤1000000000000000)(hl2:n≤ 1000000000000000):
 Calls Tryz.prog 8 #[.slice p n c] w (XL w es):=by
 have HN:=h_ hn;have HE:=h_ he;have HL:=h_ hl;clear hn he hl;go_enter Tryz.func8,Tryz.ntmps8;go_wp2;go_loopw [3,7] (fun t i wr=>∃k: Nat,k≤n∧ i= .int .i64 k∧Hid (t= .int .i64 (qJ (es.take k):Nat))∧Hid (wr=w)∧Hid (k≤40∧ qJ (es.take k)≤8000)) (fun _ i _=>n- (intOf i).toNat)
 case atStart=>exact ⟨0,by omega,rfl,rfl,rfl,by show _∧_;simp[qJ]⟩
 case round=>
  obtain⟨k,hk,rfl,ht,hw,HS⟩:=hrel;have ht2:=ht.out;have hw2:=hw.out;subst ht2 hw2;clear ht hw;by_cases hlt:k< n
  ·have h1:k< es.length:=by rw[HN.out];exact hlt
   obtain⟨b,o,hp,hc⟩:=Vr (cells:=pI) (size:=5) (fun _=>rfl) HE.out h1 d_;have q4:=hc 4 d_;have HST:=h_ (Mk h1);have uw:=HL.out _ (List.getElem_mem h1);generalize es[k]'h1=x at q4 HST uw;obtain⟨⟨v0,v1,v2,v3,v4⟩,⟨r0,r1⟩⟩:=x;rw[show(pI ((⟨v0,v1,v2,v3,v4⟩,(r0,r1)):EL))[4]? =some (.slice r0 v4.length r1)from rfl]at q4;simp only at uw;have HPP:=h_ hp;clear hc h1;have hs1:=HS.1;have hs2:=HS.2;have hd:decide (k<n)=true:= decide_eq_true hlt;have Ua:Hid (qJ (es.take (k+1))=qJ (es.take k)+v4.length):=HST;clear HST;generalize qJ (es.take k)=T at hs2 Ua HS ⊢;have ew:IntKind.i64.wrap ((T:Int)+v4.length)=T+ v4.length:=IntWalk.i64_in _ o_;subst hp;by_cases X0:40≤ k
   ·have d1:decide ((40:Int)≤k)=true:= decide_eq_true o_;go_wp2;go_ret;exact⟨true,rfl,rfl,fun h=>by cases h⟩
   ·have d1:decide ((40:Int)≤k)=false:= decide_eq_false o_;by_cases hb:8000< T+v4.length
    ·have d2:decide ((8000:Int)<(T:Int)+v4.length)=true:= decide_eq_true o_;go_wp2;go_ret;exact⟨true,rfl,rfl,fun h=>by cases h⟩
    ·have d2:decide ((8000:Int)<(T:Int)+v4.length)=false:= decide_eq_false o_;go_wp2;exact⟨⟨k+1,by omega,by go_num,by(show _=_);rw[Ua.out];simp,(by first|exact trivial|exact rfl),by(show _∧_);rw[Ua.out];omega⟩,by simp[intOf];omega⟩
  ·obtain rfl:k= n:=o_;have hd:decide (k<k)=false:= decide_eq_false o_;go_wp2;go_ret;refine⟨false,rfl,rfl,fun _=> ?_⟩;have h:=HS.out;rw[List.take_of_length_le (by rw[HN.out];exact Nat.le_refl _)]at h;exact⟨by rw[HN.out];exact h.1,h.2⟩
def JL(w:World)(s:St)(e:Ending)(w':World):Prop:= ∃b: Bool,e= .returned (.bool b)∧Below w.heap.size w w'∧(b=false→ s.ax.length+s.ai.length+ s.cd.length+s.aP.length≤ 300)
theorem FA(s:St)(r:Raw)(B:Nat)(w:World)(h:aX w B r s)(cC:s.ax.length≤ 1000000000000000)(hl2:s.ai.length≤ 1000000000000000)(cS:s.cd.length≤ 1000000000000000)(hl4:s.aP.length≤ 1000000000000000):
 Calls Tryz.prog 7 #[r.agg] w (JL w s):=by
 obtain⟨term,ag,next,⟨a1,n1,c1⟩,⟨a2,n2,c2⟩,⟨a3,n3,c3⟩,⟨a4,n4,c4⟩⟩:=r;have h1:s.ax.length= n1:=h.cD.len;have h2:s.ai.length= n2:=h.cG.len;have h3:s.cd.length= n3:=h.eY.len;have h4:s.aP.length= n4:=h.ft.len;have HG:Hid (∀b: Bool,(b=false→ n1+n2+ n3+n4≤ 300)→(b=false→ s.ax.length+s.ai.length+ s.cd.length+s.aP.length≤ 300)):=h_ (fun b hb he=>by have:=hb he;omega);have e1:IntKind.i64.wrap ((n1:Int)+n2)=n1+ n2:=IntWalk.i64_in _ o_;have e2:IntKind.i64.wrap ((n1:Int)+n2+ n3)=n1+ n2+n3:= IntWalk.i64_in _ o_;have e3:IntKind.i64.wrap ((n1:Int)+n2+ n3+n4)=n1+ n2+n3+ n4:=IntWalk.i64_in _ o_;unfold JL;clear h h1 h2 h3 h4 cC hl2 cS hl4;by_cases g:300< n1+n2+ n3+n4
 ·have d:decide ((300:Int)<(n1:Int)+n2+ n3+n4)=true:= decide_eq_true o_;go_enter Tryz.func7,Tryz.ntmps7;go_wp2;go_returns;exact⟨true,rfl,aH,HG.out true (fun h=>by cases h)⟩
 ·have d:decide ((300:Int)<(n1:Int)+n2+ n3+n4)=false:= decide_eq_false o_;go_enter Tryz.func7,Tryz.ntmps7;go_wp2;go_returns;exact⟨false,rfl,aH,HG.out false (fun _=>by omega)⟩
theorem sD{H:Type}{enc:TypeId× Value→H}{P:Program}{w:World}{t e:TypeId}{a:Option Addr}{n c:Nat}(ht:P.underlying t=some (.slice e))(hb:1≤ P.bytesOf e)(h:Rd enc P w t [.slice a n c]):n≤ 1000000000000000:=by
 rcases h.slice ht with h1|⟨x,l,c',h1,hl,hm,hby,hel⟩
 ·simp at h1;omega
 ·simp at h1;obtain⟨rfl,rfl,rfl⟩:=h1;have:c≤ c*P.bytesOf e:=Nat.le_mul_of_pos_right _ hb;unfold reachBytes at hby;omega
theorem Gr{H:Type}{enc:TypeId× Value→H}{w:World}{cs:List Value}(h:Rd enc Tryz.prog w 27 cs):∃(r:Raw) (s:St),cs=r.cells∧ aX w 0 r s∧eo s.term∧eo s.ag∧eo s.next∧s.ax.length≤ 1000000000000000∧s.ai.length≤ 1000000000000000∧s.cd.length≤ 1000000000000000∧s.aP.length≤ 1000000000000000:=by
 obtain⟨hl,hf⟩:=h.struct Tryz.underlying27;have hn:Tryz.prog.cellsOf 27=7:= k_;have jm:Tryz.prog.cellsOf 3=1:= k_;have Zz:Tryz.prog.cellsOf 22=1:= k_;have Zx:Tryz.prog.cellsOf 23=1:= k_;have Zy:Tryz.prog.cellsOf 24=1:= k_;have Zw:Tryz.prog.cellsOf 25=1:= k_;rw[hn]at hl
 match cs,hl with
 |[v0,v1,v2,v3,v4,v5,v6],_=>
  have f0:Rd enc Tryz.prog w 3 ((([v0,v1,v2,v3,v4,v5,v6]:List Value).drop 0).take (Tryz.prog.cellsOf 3)):=hf 0 _ rfl;rw[jm]at f0;replace f0:Rd enc Tryz.prog w 3 [v0]:=f0;obtain⟨x0,e0,g0⟩:=f0.int Tryz.underlying3;replace g0:=bounds_i64 g0;have f1:Rd enc Tryz.prog w 3 ((([v0,v1,v2,v3,v4,v5,v6]:List Value).drop 1).take (Tryz.prog.cellsOf 3)):=hf 1 _ rfl;rw[jm]at f1;replace f1:Rd enc Tryz.prog w 3 [v1]:=f1;obtain⟨x1,e1,g1⟩:=f1.int Tryz.underlying3;replace g1:=bounds_i64 g1;have f2:Rd enc Tryz.prog w 3 ((([v0,v1,v2,v3,v4,v5,v6]:List Value).drop 2).take (Tryz.prog.cellsOf 3)):=hf 2 _ rfl;rw[jm]at f2;replace f2:Rd enc Tryz.prog w 3 [v2]:=f2;obtain⟨x2,e2,g2⟩:=f2.int Tryz.underlying3;replace g2:=bounds_i64 g2;have f3:Rd enc Tryz.prog w 22 ((([v0,v1,v2,v3,v4,v5,v6]:List Value).drop 3).take (Tryz.prog.cellsOf 22)):=hf 3 _ rfl;rw[Zz]at f3;replace f3:Rd enc Tryz.prog w 22 [v3]:=f3;obtain⟨a3,n3,c3,rfl⟩:=su Tryz.underlying22 f3;obtain⟨ts,l3,k3,z3,r3⟩:=Eh f3;have b3:=sD Tryz.underlying22 (by rw[show Tryz.prog.bytesOf 75=40 by kernel_rfl];decide) f3;have f4:Rd enc Tryz.prog w 23 ((([v0,v1,v2,(Value.slice a3 n3 c3),v4,v5,v6]:List Value).drop 4).take (Tryz.prog.cellsOf 23)):=hf 4 _ rfl;rw[Zx]at f4;replace f4:Rd enc Tryz.prog w 23 [v4]:=f4;obtain⟨a4,n4,c4,rfl⟩:=su Tryz.underlying23 f4;obtain⟨ls,l4,k4,m4,z4,r4⟩:=LZ f4;have b4:=sD Tryz.underlying23 (by rw[show Tryz.prog.bytesOf 59=56 by kernel_rfl];decide) f4;have f5:Rd enc Tryz.prog w 24 ((([v0,v1,v2,(Value.slice a3 n3 c3),(Value.slice a4 n4 c4),v5,v6]:List Value).drop 5).take (Tryz.prog.cellsOf 24)):=hf 5 _ rfl;rw[Zy]at f5;replace f5:Rd enc Tryz.prog w 24 [v5]:=f5;obtain⟨a5,n5,c5,rfl⟩:=su Tryz.underlying24 f5;obtain⟨ss,l5,k5,m5,z5,r5⟩:=L1 f5;have b5:=sD Tryz.underlying24 (by rw[show Tryz.prog.bytesOf 92=56 by kernel_rfl];decide) f5;have f6:Rd enc Tryz.prog w 25 ((([v0,v1,v2,(Value.slice a3 n3 c3),(Value.slice a4 n4 c4),(Value.slice a5 n5 c5),v6]:List Value).drop 6).take (Tryz.prog.cellsOf 25)):=hf 6 _ rfl;rw[Zw]at f6;replace f6:Rd enc Tryz.prog w 25 [v6]:=f6;obtain⟨a6,n6,c6,rfl⟩:=su Tryz.underlying25 f6;obtain⟨ds,l6,k6,m6,z6,r6⟩:=LX f6;have b6:=sD Tryz.underlying25 (by rw[show Tryz.prog.bytesOf 66=64 by kernel_rfl];decide) f6;simp only[List.cons.injEq,and_true]at e0 e1 e2;subst e0;subst e1;subst e2;exact⟨⟨x0,x1,x2,⟨a3,n3,c3⟩,⟨a4,n4,c4⟩,⟨a5,n5,c5⟩,⟨a6,n6,c6⟩⟩,⟨x0,x1,x2,ts,ls,ss,ds⟩,rfl,⟨rfl,rfl,rfl,⟨l3,k3,z3,fun b _ _ _=> .inl (Nat.zero_le b),r3⟩,⟨l4,k4,z4,fun b _ _ _=> .inl (Nat.zero_le b),r4⟩,⟨l5,k5,z5,fun b _ _ _=> .inl (Nat.zero_le b),r5⟩,⟨⟨l6,k6,z6,fun b _ _ _=> .inl (Nat.zero_le b),r6⟩,fun h=>absurd h o_,fun h=>absurd h o_⟩⟩,by unfold eo;simp only;omega,by unfold eo;simp only;omega,by unfold eo;simp only;omega,by rw[l3];exact b3,by rw[l4];exact b4,by rw[l5];exact b5,by rw[l6];exact b6⟩
theorem O0{H:Type}{enc:TypeId× Value→H}{w:World}{cs:List Value}(h:Rd enc Tryz.prog w 45 cs):∃x: EL,cs=pI x∧iu w x.2.1 x.1.data∧x.1.data.length≤ x.2.2∧x.1.data.length≤ 1000000000000000∧eo x.1.ag:=by
 obtain⟨hl,hf⟩:=h.struct Tryz.underlying45;rw[show Tryz.prog.cellsOf 45=5 by kernel_rfl]at hl
 match cs,hl with
 |[v0,v1,v2,v3,v4],_=>
  have f0:Rd enc Tryz.prog w 3 ((([v0,v1,v2,v3,v4]:List Value).drop 0).take (Tryz.prog.cellsOf 3)):=hf 0 _ rfl;rw[show Tryz.prog.cellsOf 3=1 by kernel_rfl]at f0;replace f0:Rd enc Tryz.prog w 3 [v0]:=f0;have f1:Rd enc Tryz.prog w 42 ((([v0,v1,v2,v3,v4]:List Value).drop 1).take (Tryz.prog.cellsOf 42)):=hf 1 _ rfl;rw[show Tryz.prog.cellsOf 42=1 by kernel_rfl]at f1;replace f1:Rd enc Tryz.prog w 42 [v1]:=f1;have f2:Rd enc Tryz.prog w 3 ((([v0,v1,v2,v3,v4]:List Value).drop 2).take (Tryz.prog.cellsOf 3)):=hf 2 _ rfl;rw[show Tryz.prog.cellsOf 3=1 by kernel_rfl]at f2;replace f2:Rd enc Tryz.prog w 3 [v2]:=f2;have f3:Rd enc Tryz.prog w 5 ((([v0,v1,v2,v3,v4]:List Value).drop 3).take (Tryz.prog.cellsOf 5)):=hf 3 _ rfl;rw[show Tryz.prog.cellsOf 5=1 by kernel_rfl]at f3;replace f3:Rd enc Tryz.prog w 5 [v3]:=f3;have f4:Rd enc Tryz.prog w 43 ((([v0,v1,v2,v3,v4]:List Value).drop 4).take (Tryz.prog.cellsOf 43)):=hf 4 _ rfl;rw[show Tryz.prog.cellsOf 43=1 by kernel_rfl]at f4;replace f4:Rd enc Tryz.prog w 43 [v4]:=f4;obtain⟨x0,e0,g0⟩:=f0.int Tryz.underlying3;replace g0:=bounds_i64 g0;simp only[List.cons.injEq,and_true]at e0;subst e0;obtain⟨x1,e1,g1⟩:=f1.int Tryz.underlying42;replace g1:=bounds_i8 g1;simp only[List.cons.injEq,and_true]at e1;subst e1;obtain⟨x2,e2,g2⟩:=f2.int Tryz.underlying3;replace g2:=bounds_i64 g2;simp only[List.cons.injEq,and_true]at e2;subst e2;obtain⟨x3,e3,g3⟩:=f3.int Tryz.underlying5;replace g3:=bounds_u8 g3;have u3:Value.int .u8 x3=B (UInt8.ofNat x3.toNat):=by unfold B;rw[UInt8.toNat_ofNat'];congr 1;omega
  simp only[List.cons.injEq,and_true]at e3;subst e3;have hs4:∃a n c,v4= .slice a n c:=by
   rcases f4.slice Tryz.underlying43 with h1|⟨a,n,c,h1,_⟩
   ·simp at h1;exact⟨_,_,_,h1⟩
   ·simp at h1;exact⟨_,_,_,h1⟩
  obtain⟨a4,n4,c4,rfl⟩:=hs4;obtain⟨l4,m4,nc4,cm4,bb4,z4,r4⟩:=f4.bytes Tryz.underlying43 Tryz.underlying5 k_;rw[show Tryz.prog.bytesOf 5=1 by kernel_rfl]at bb4;subst m4;have hh:l4.length≤ 1000000000000000:=by unfold reachBytes at bb4;omega
  exact⟨(⟨x0,x1,x2,UInt8.ofNat x3.toNat,l4⟩,(a4,c4)),by unfold pI;rw[←u3],r4,nc4,hh,by unfold eo;simp only;omega⟩
theorem LY{H:Type}{enc:TypeId× Value→H}{w:World}{a:Option Addr}{n c:Nat}(h:Rd enc Tryz.prog w 28 [.slice a n c]):∃es: List EL,es.length=n∧ n≤1000000000000000∧ (∀y∈ es,iu w y.2.1 y.1.data∧y.1.data.length≤ y.2.2∧y.1.data.length≤ 1000000000000000∧eo y.1.ag)∧bF rF w a es:=by
 obtain⟨l2,m2,nc2,cm2,bb2,z2,g2,r2⟩:=Rd.rows (α:=EL) (cells:=pI) (size:=5) (good:=fun y=>iu w y.2.1 y.1.data∧y.1.data.length≤ y.2.2∧y.1.data.length≤ 1000000000000000∧eo y.1.ag) (fun _=>rfl) d_ Tryz.underlying28 k_ (fun cs hcs=>O0 hcs) h;rw[show Tryz.prog.bytesOf 45=56 by kernel_rfl]at bb2;exact⟨l2,m2,by unfold reachBytes at bb2;omega,g2,r2⟩
theorem Mj{es:List EL}:∀y∈ es,y.1.data.length≤qJ es:=by
 induction es with
 |nil=> exact fun y h=>by cases h
 |cons x es ih=>
  intro y hy;rw[qJ];rcases List.mem_cons.1 hy with rfl|h
  ·omega
  ·have:=ih y h;omega
theorem Ai{l:List aD}{id:Int}(h:dg l=true):lQ l id=(iK l id).1.number:=by unfold lQ;rw[if_pos h]
theorem Jm(l:List aD)(a:Option Addr)(n c:Nat)(id num:Int)(w:World)(hn:l.length= n)(hl:n≤ 1000000)(hr:bF aB w a l):
 Calls Tryz.prog 82 (uk a n c id num) w (Ns w (mr l id num)):=by
 have HA:Hid (mr l id num=if oY l id num=false then(bS.err 0,false,2)else if num<(iK l id).1.number then(bS.err 0,false,150)else if num=(iK l id).1.number then((iK l id).1.answer,false,0)else(bS.err 0,true,0)):=rfl;generalize mr l id num=res at HA ⊢;have hm:=bD (Nat.le_trans hl d_:n≤ 1048576);have Hl:=h_ (fun w' (q:Below (World.alloc w (.cells dB 40)).heap.size (World.alloc w (.cells dB 40)) w')=>And.intro (oI q) (Below.boxed q));cases hs:oY l id num with
 |false=>
  have HS:=h_ hs;rw[hs]at HA;clear hs;go_enter Tryz.func82,Tryz.ntmps82;go_wp2_with(first|(go_at_call 141;((with_reducible refine(jS l _ _ _ _ _ _ hn hm (bF.below hr aH)).mono ?_);rw[HS.out];rintro e w2 ⟨rfl,hb⟩;have HT:=h_ (Hl w2 aH).1))|(refine cO bA rfl (.tmp 6) (.tmp 15) rfl w.heap.size 0 (bS.err 0) rfl rfl HT.out ?_;intro w5 sL _ cv _;have Dx:=h_ sL;have df:=cv w.heap.size n_;clear sL cv));obtain⟨c0,c1,c2,c3,c4⟩:=lL Dx.out;simp only[Nat.zero_add]at c1 c2 c3 c4;refine bodyPost_ret (v:= .tuple #[(bS.err 0).agg,.bool false,.int .i64 2]) (by simp[results,Tryz.results82,go_sem,c0,c1,c2,c3,c4]) rfl ?_;have q:Below w.heap.size w w2:=aH;exact⟨by rw[HA.out];rfl,q.trans df⟩
 |true=>
  have HS:=h_ hs;obtain⟨hs1,hi1,hi2,J0⟩:=uV hs;rw[hs,if_neg (by simp)]at HA;have G8:=h_ (Ai (id:=id) hs1);have HW:=h_ (zO l id);generalize lQ l id=la at G8;by_cases h1:num< la
  ·have HO:Hid (res=(bS.err 0,false,150)):=by show _=_;rw[HA.out,←G8.out,if_pos h1]
   have qj:Hid (lQ l id=la):=by show _=_;rw[G8.out];exact Ai hs1
   clear hs hs1 HA G8 HW;go_enter Tryz.func82,Tryz.ntmps82;go_wp2_with(first|(go_at_call 141;((with_reducible refine(jS l _ _ _ _ _ _ hn hm (bF.below hr aH)).mono ?_);rw[HS.out];rintro e w2 ⟨rfl,hb⟩))|(go_at_call 142;((with_reducible refine(lU l _ _ _ _ _ hn hl (bF.below hr aH)).mono ?_);rw[qj.out];rintro e w3 ⟨rfl,hb3⟩;have HT:=h_ (Hl w3 aH).1))|(refine cO bA rfl (.tmp 6) (.tmp 22) rfl w.heap.size 0 (bS.err 0) rfl rfl HT.out ?_;intro w5 sL _ cv _;have Dx:=h_ sL;have df:=cv w.heap.size n_;clear sL cv));obtain⟨c0,c1,c2,c3,c4⟩:=lL Dx.out;simp only[Nat.zero_add]at c1 c2 c3 c4;refine bodyPost_ret (v:= .tuple #[(bS.err 0).agg,.bool false,.int .i64 150]) (by simp[results,Tryz.results82,go_sem,c0,c1,c2,c3,c4]) rfl ?_;have q:Below w.heap.size w w3:=aH;exact⟨by rw[HO.out],q.trans df⟩
  have qj:Hid (lQ l id=la):=by show _=_;rw[G8.out];exact Ai hs1
  by_cases h2:num= la
  ·obtain⟨k,hk,hk1,hk2⟩:∃k,∃hk: k<l.length,iL (fun s=>s.aA== id) l=k∧ iK l id=(l[k],true):=by
    rcases HW.out with⟨_,h⟩|h
    ·have:=G8.out;rw[h]at this;simp only[tq]at this;omega
    ·exact h
   have HO:Hid (res=(l[k].answer,false,0)):=by show _=_;rw[HA.out,←G8.out,if_neg h1,if_pos h2,hk2]
   obtain⟨b,o,rfl,hcs⟩:=ql hr hk;have HC:=h_ hcs;have HK:=h_ hk1;generalize l[k]=y at HC HO;subst h2;subst hn;clear hs hs1 HA G8 HW hcs hk1 hk2;go_enter Tryz.func82,Tryz.ntmps82;go_wp2_with(first|(go_at_call 141;((with_reducible refine(jS l _ _ _ _ _ _ rfl hm (bF.below hr aH)).mono ?_);rw[HS.out];rintro e w2 ⟨rfl,hb⟩))|(go_at_call 142;((with_reducible refine(lU l _ _ _ _ _ rfl hl (bF.below hr aH)).mono ?_);rw[qj.out];rintro e w3 ⟨rfl,hb3⟩))|(go_at_call 143;((with_reducible refine(rK l _ _ _ _ _ rfl hm (bF.below hr aH)).mono ?_);rw[HK.out];rintro e w4 ⟨rfl,hb4⟩;have HT:=h_ (Hl w4 aH).1;obtain⟨_,_,y2,y3,y4,y5,y6⟩:=HC.out w4 aH))|(refine cO bA rfl (.tmp 6) (.tmp 32) rfl w.heap.size 0 y.answer rfl rfl HT.out ?_;intro w5 sL _ cv _;have Dx:=h_ sL;have df:=cv w.heap.size n_;clear sL cv));obtain⟨c0,c1,c2,c3,c4⟩:=lL Dx.out;simp only[Nat.zero_add]at c1 c2 c3 c4;refine bodyPost_ret (v:= .tuple #[y.answer.agg,.bool false,.int .i64 0]) (by simp[results,Tryz.results82,go_sem,c0,c1,c2,c3,c4]) rfl ?_;have q:Below w.heap.size w w4:=aH;exact⟨by rw[HO.out],q.trans df⟩
  ·have HO:Hid (res=(bS.err 0,true,0)):=by show _=_;rw[HA.out,←G8.out,if_neg h1,if_neg h2]
   have g2:(num==la)=false:= beq_eq_false_iff_ne.2 h2;clear hs hs1 HA G8 HW h2;go_enter Tryz.func82,Tryz.ntmps82;go_wp2_with(first|(go_at_call 141;((with_reducible refine(jS l _ _ _ _ _ _ hn hm (bF.below hr aH)).mono ?_);rw[HS.out];rintro e w2 ⟨rfl,hb⟩))|(go_at_call 142;((with_reducible refine(lU l _ _ _ _ _ hn hl (bF.below hr aH)).mono ?_);rw[qj.out];rintro e w3 ⟨rfl,hb3⟩;have HT:=h_ (Hl w3 aH).1))|(refine cO bA rfl (.tmp 6) (.tmp 33) rfl w.heap.size 0 (bS.err 0) rfl rfl HT.out ?_;intro w5 sL _ cv _;have Dx:=h_ sL;have df:=cv w.heap.size n_;clear sL cv));obtain⟨c0,c1,c2,c3,c4⟩:=lL Dx.out;simp only[Nat.zero_add]at c1 c2 c3 c4;refine bodyPost_ret (v:= .tuple #[(bS.err 0).agg,.bool true,.int .i64 0]) (by simp[results,Tryz.results82,go_sem,c0,c1,c2,c3,c4]) rfl ?_;have q:Below w.heap.size w w3:=aH;exact⟨by rw[HO.out],q.trans df⟩
theorem A0(ts:List aj)(a:Option Addr)(n c:Nat)(id:Int)(w:World)(hn:ts.length= n)(hl:ts.length≤ 1000)(hr:dK w a ts):
 Calls Tryz.prog 146 (Bp a n c id) w (KI w none (cP id ts)):=by
 subst hn;go_enter Tryz.func146,Tryz.ntmps146;go_wp2;go_loopw [5,6] (fun out i wr=>∃k: Nat,∃a' c',k≤ts.length∧ i= .int .i64 k∧out= .slice a' (cP id (ts.take k)).length c'∧wr.ownsRow w.heap.size 75 5 (.slice a' (cP id (ts.take k)).length c') (cP id (ts.take k)).length ((cP id (ts.take k)).flatMap aj.cells)∧Below w.heap.size w wr) (fun _ i _=>ts.length- (intOf i).toNat)
 case atStart=>exact ⟨0,none,0,by omega,rfl,rfl,World.ownsRow_nil _ _ _ _,Below.refl _ _⟩
 case round=>
  obtain⟨k,a',c',hk,rfl,rfl,hown,hb⟩:=hrel;by_cases hlt:k< ts.length
  ·obtain⟨b,o,rfl,hcs⟩:=hr.at hlt;obtain⟨h0,h1,h2,h3,h4⟩:=hcs _ hb;clear hcs;have uB:Hid (ts.take (k+1)=ts.take k++[ts[k]]):=List.take_succ_eq_append_getElem hlt;have hfl:(cP id (ts.take k)).length≤k:= by
    have:=List.length_filter_le (fun x:aj=> x.id !=id) (ts.take k);unfold cP;rw[List.length_take]at this;omega
   cases hid:ts[k].id !=id with
   |false=>
    have HF:Hid (cP id (ts.take (k+1))=cP id (ts.take k)):=by
     show cP _ _=_
     rw[uB.out];unfold cP;rw[List.filter_append];simp[hid]
    go_wp2;go_roundw
    case rel=>exact ⟨k+1,a',c',by omega,by go_num,by rw[HF.out],by rw[HF.out];exact hown,hb⟩
    case measure=>simp [intOf];omega
   |true=>
    have HF:Hid (cP id (ts.take (k+1))=cP id (ts.take k)++[ts[k]]):=by
     show cP _ _=_
     rw[uB.out];unfold cP;rw[List.filter_append];simp[hid]
    go_wp2_with(at_builtin;refine eX eI rfl _ _ rfl w.heap.size _ (cP id (ts.take k)).length _ rfl (hown.alloc _) (some ⟨wr.heap.size,0,none⟩) 1 1 ts[k].cells rfl rfl (Row.new _ _ _ _) (by intro u hu;simp at hu;rcases hu with rfl|rfl| rfl|rfl| rfl<;>rfl) o_ (by have:=hb.size;simp;omega) ?_;intro a2 c2 w2 hown2 hg2;have hb2:=Below.app (hb.alloc hb.size _) (hown.alloc _) hg2 (by have:=hb.size;simp;omega);clear hg2 h0 h1 h2 h3 h4);go_roundw
    case rel=>exact ⟨k+1,a2,c2,by omega,by go_num,by rw[HF.out];simp,by rw[HF.out,List.length_append,List.flatMap_append];simpa using hown2,hb2⟩
    case measure=>simp [intOf];omega
  ·have HT:Hid (cP id (ts.take k)=cP id ts):=by show cP _ _=_;rw[List.take_of_length_le o_]
   go_wp2;go_returns;obtain⟨_,_,hv,hle,_,hnone⟩:=eN hown;simp only[Value.slice.injEq]at hv;obtain⟨rfl,_,rfl⟩:=hv;exact⟨a',c',by rw[←HT.out];rfl,by rw[←HT.out];exact hle,hnone,cg.own hown n_,by rw[←HT.out];exact jO hown,hb⟩
theorem Y6 {P:Prop}(h:P:=by
 (try simp only[Exit.inBlock,Exit.then]);refine bodyPost_ret (v:= .agg (mh 161 0 0 0 0)) (by simp[results,Tryz.results84,go_sem,hcl]) rfl ?_;have cv:=((Below.refl w.heap.size w).alloc n_ _).trans (df.mono (by simp))
 exact⟨by rw[HO.out];rfl,cv.setCell n_ _|>.setCell n_ _|>.setCell n_ _|>.setCell n_ _|>.setCell n_ _⟩):P:=h
theorem pX(ts:List aj)(a:Option Addr)(n c:Nat)(id:Int)(w:World)(hn:ts.length= n)(hl:ts.length≤ maxLen)(hr:dK w a ts):
 Calls Tryz.prog 84 (Bp a n c id) w (Un w (ma ts id)):=by
 have hr1:dK (w.alloc (.cells dB 40)) a ts:=Row.alloc hr _;have HG:Hid (ma ts id=if aZ 0 ts=false then bS.err 2 else if(bf ts id).2=false∨ (bf ts id).1.gone=true then bS.err 161 else⟨0,(bf ts id).1.aK,(bf ts id).1.aq,0,0⟩):=rfl;generalize ma ts id=out at HG ⊢;rcases fk:bf ts id with⟨⟨ur,tj,od,gu,Dq⟩,ok⟩;rw[fk]at HG;have HF:=h_ fk;clear fk;cases ht:aZ 0 ts with
 |false=>
  have HT:=h_ ht;have HO:Hid (out=bS.err 2):=by rw[HG.out,if_pos ht];exact rfl
  clear ht HG;go_enter Tryz.func84,Tryz.ntmps84;go_wp2_with(first|(go_at_call 53;((with_reducible refine(cI ts _ _ _ _ hn hl hr1).mono ?_);rw[HT.out];rintro e w3 ⟨rfl,hb3⟩;have hcl:=aW hb3;have hfz:=aY hb3)));(try simp only[Exit.inBlock,Exit.then]);refine bodyPost_ret (v:= .agg (mh 2 0 0 0 0)) (by simp[results,Tryz.results84,go_sem,hcl]) rfl ?_;have cv:=((Below.refl w.heap.size w).alloc n_ _).trans (hb3.mono (by simp));exact⟨by rw[HO.out];rfl,cv.setCell n_ _|>.setCell n_ _|>.setCell n_ _|>.setCell n_ _|>.setCell n_ _⟩
 |true=>
  have HT:=h_ ht;cases ok with
  |false=>
   have HO:Hid (out=bS.err 161):=by rw[HG.out,if_neg (by rw[ht];simp),if_pos (.inl rfl)];exact rfl
   clear ht HG;go_enter Tryz.func84,Tryz.ntmps84;go_wp2_with(first|(go_at_call 53;((with_reducible refine(cI ts _ _ _ _ hn hl hr1).mono ?_);rw[HT.out];rintro e w3 ⟨rfl,hb3⟩;have hcl:=aW hb3;have hfz:=aY hb3))|(go_at_call 92;((with_reducible refine(dS ts a n c id _ hn hl (hr1.below hb3)).mono ?_);rw[HF.out];rintro e w2 ⟨rfl,hb⟩;have hb4:=hb3.trans (hb.mono hb3.size);have df:=hb4.alloc hb4.size (.cells (gW ur tj od gu Dq) 75);have hcl:=aW df;have hfz:=aY df)));exact Y6
  |true=>
   cases Dq with
   |true=>
    have HO:Hid (out=bS.err 161):=by rw[HG.out,if_neg (by rw[ht];simp),if_pos (.inr rfl)];exact rfl
    clear ht HG;go_enter Tryz.func84,Tryz.ntmps84;go_wp2_with(first|(go_at_call 53;((with_reducible refine(cI ts _ _ _ _ hn hl hr1).mono ?_);rw[HT.out];rintro e w3 ⟨rfl,hb3⟩;have hcl:=aW hb3;have hfz:=aY hb3))|(go_at_call 92;((with_reducible refine(dS ts a n c id _ hn hl (hr1.below hb3)).mono ?_);rw[HF.out];rintro e w2 ⟨rfl,hb⟩;have hb4:=hb3.trans (hb.mono hb3.size);have df:=hb4.alloc hb4.size (.cells (gW ur tj od gu true) 75);have hcl:=aW df;have hfz:=aY df)));exact Y6
   |false=>
    have HO:Hid (out=⟨0,tj,od,0,0⟩):=by rw[HG.out,if_neg (by rw[ht];simp),if_neg (by simp)];exact rfl
    clear ht HG;go_enter Tryz.func84,Tryz.ntmps84;go_wp2_with(first|(go_at_call 53;((with_reducible refine(cI ts _ _ _ _ hn hl hr1).mono ?_);rw[HT.out];rintro e w3 ⟨rfl,hb3⟩;have hcl:=aW hb3;have hfz:=aY hb3))|(go_at_call 92;((with_reducible refine(dS ts a n c id _ hn hl (hr1.below hb3)).mono ?_);rw[HF.out];rintro e w2 ⟨rfl,hb⟩;have hb4:=hb3.trans (hb.mono hb3.size);have df:=hb4.alloc hb4.size (.cells (gW ur tj od gu false) 75);have hcl:=aW df;have hfz:=aY df)));(try simp only[Exit.inBlock,Exit.then]);refine bodyPost_ret (v:= .agg (mh 0 tj od 0 0)) (by simp[results,Tryz.results84,go_sem,hcl]) rfl ?_;have cv:=((Below.refl w.heap.size w).alloc n_ _).trans (df.mono (by simp));exact⟨by rw[HO.out],cv.setCell n_ _|>.setCell n_ _|>.setCell n_ _|>.setCell n_ _|>.setCell n_ _⟩
theorem Q9{ts:List aj}{id:Int}(h:(ma ts id).e=0):aZ 0 ts=true:= by
 cases ht:aZ 0 ts with
 |true=> rfl
 |false=> unfold ma at h;rw[if_pos ht]at h;cases h
theorem Cf(ts:List aj)(a:Option Addr)(n c:Nat)(id out:Int)(w:World)(hn:ts.length= n)(hl:ts.length≤ 1000)(hc:a= none→c= 0)(hnc:n≤ c)(hr:dK w a ts):
 Calls Tryz.prog 85 (uk a n c id out) w (CI w a (gp ts id out)):=by
 subst hn;have hmax:ts.length≤ maxLen:=bD o_;have hr1:dK (w.alloc (.cells dB 40)) a ts:=Row.alloc hr _;have HP:Hid (gp ts id out=if (ma ts id).e≠0 then(ts,bS.err (ma ts id).e)else if 0<out then(dE ⟨id,0,0,0,true⟩ ts,bS.err 0)else(cw id ts,bS.err 0)):=rfl;generalize gp ts id out=res at HP ⊢;rcases hg:ma ts id with⟨ge,rB,mR,mS,rC⟩;have HG:=h_ hg;rw[hg]at HP;clear hg;cases h0:(ge !=0)with
 |true=>
  have HO:Hid (res=(ts,bS.err ge)):=by
   have:ge≠ 0:=by simpa using h0
   rw[HP.out,if_pos this];exact rfl
  clear HP;go_enter Tryz.func85,Tryz.ntmps85;go_wp2_with(go_at_call 84;((with_reducible refine(pX ts _ _ _ _ _ rfl hmax hr1).mono ?_);rw[HG.out];rintro e w3 ⟨rfl,hb3⟩;have hcl:=aW hb3;have hfz:=aY hb3));have hb4:=hb3.alloc hb3.size (.cells (mh ge rB mR mS rC) 40);have hx0:(w3.alloc (.cells (mh ge rB mR mS rC) 40)).cell? ⟨w3.heap.size,0,none⟩=some (.int .i64 ge):=(World.cell?_alloc_at _ _ _ 0 rfl);have hcl:=aW hb4;have hfz:=aY hb4;generalize w3.alloc (.cells (mh ge rB mR mS rC) 40)=w4 at hb4 hx0 hcl hfz ⊢;have hx1:w4.drew.cell? ⟨w3.heap.size,0,none⟩=some (.int .i64 ge):=hx0;unfold World.drew at hx1;clear hcl hfz;go_still_tail 5,k_
  change wpList _ _ _ _ _ w4.drew
  have cv:=hb4.drew;clear hx1 hx0 hb4;generalize w4.drew=w5 at cv ⊢;have hcl:=aW cv;have hfz:=aY cv;go_wp2_with fail;(try simp only[Exit.inBlock,Exit.then]);refine bodyPost_ret (v:= .tuple #[.slice a ts.length c,.agg (mh ge 0 0 0 0)]) (by simp[results,Tryz.results85,go_sem,hcl]) rfl ?_;have df:=((Below.refl w.heap.size w).alloc n_ _).trans (cv.mono (by simp));exact⟨a,c,by rw[HO.out];rfl,by rw[HO.out];exact hnc,hc,cg.self _ _,by rw[HO.out];exact hr.below (nb df n_ _ _ _ _ _),nb df n_ _ _ _ _ _⟩
 |false=>
  obtain rfl:ge= 0:=by simpa using h0
  have htk:aZ 0 ts=true:= Q9 (by rw[HG.out]);by_cases hout:0< out
  ·have HO:Hid (res=(dE ⟨id,0,0,0,true⟩ ts,bS.err 0)):=by rw[HP.out,if_neg (by simp),if_pos hout];exact rfl
   have We:Hid (kL ⟨id,0,0,0,true⟩ ts=dE ⟨id,0,0,0,true⟩ ts):=tZ _ htk;clear HP h0 htk;go_enter Tryz.func85,Tryz.ntmps85;go_wp2_with(first|(go_at_call 84;((with_reducible refine(pX ts _ _ _ _ _ rfl hmax hr1).mono ?_);rw[HG.out];rintro e w3 ⟨rfl,hb3⟩;have hcl:=aW hb3;have hfz:=aY hb3))|(go_at_call 145;((with_reducible refine(lV ts _ _ _ ⟨id,0,0,0,true⟩ _ rfl hl (Row.alloc (hr1.below hb3) _)).mono ?_);rw[We.out];rintro e w7 ⟨a7,c7,rfl,wJ,LF,iG,IZ,cL⟩;have pQ:=(hb3.alloc hb3.size (.cells (mh 0 rB mR mS rC) 40));have jR:=pQ.trans (cL.mono pQ.size);have hcl:=aW jR;have hfz:=aY jR)));(try simp only[Exit.inBlock,Exit.then]);refine bodyPost_ret (v:= .tuple #[.slice a7 (dE ⟨id,0,0,0,true⟩ ts).length c7,.agg dB]) (by simp[results,Tryz.results85,go_sem,hcl]) rfl ?_;(try simp only[Exit.inBlock,Exit.then]);have jn:=((Below.refl w.heap.size w).alloc n_ _).trans (jR.mono (by simp));have hsz:=hb3.size;simp at hsz;exact⟨a7,c7,by rw[HO.out];rfl,by rw[HO.out];exact wJ,LF,(iG.mono (by simp;omega)).trans' _,by rw[HO.out];exact Row.nb IZ (iG.ne (by simp;omega)) _ _ _ _ _,nb jn n_ _ _ _ _ _⟩
  ·have HO:Hid (res=(cw id ts,bS.err 0)):=by rw[HP.out,if_neg (by simp),if_neg hout];exact rfl
   have We:Hid (cP id ts=cw id ts):=jc _ htk;clear HP h0 htk;go_enter Tryz.func85,Tryz.ntmps85;go_wp2_with(first|(go_at_call 84;((with_reducible refine(pX ts _ _ _ _ _ rfl hmax hr1).mono ?_);rw[HG.out];rintro e w3 ⟨rfl,hb3⟩;have hcl:=aW hb3;have hfz:=aY hb3))|(go_at_call 146;((with_reducible refine(A0 ts _ _ _ id _ rfl hl (Row.alloc (hr1.below hb3) _)).mono ?_);rw[We.out];rintro e w7 ⟨a7,c7,rfl,wJ,LF,iG,IZ,cL⟩;have pQ:=(hb3.alloc hb3.size (.cells (mh 0 rB mR mS rC) 40));have jR:=pQ.trans (cL.mono pQ.size);have hcl:=aW jR;have hfz:=aY jR)));(try simp only[Exit.inBlock,Exit.then]);refine bodyPost_ret (v:= .tuple #[.slice a7 (cw id ts).length c7,.agg dB]) (by simp[results,Tryz.results85,go_sem,hcl]) rfl ?_;(try simp only[Exit.inBlock,Exit.then]);have jn:=((Below.refl w.heap.size w).alloc n_ _).trans (jR.mono (by simp));have hsz:=hb3.size;simp at hsz;exact⟨a7,c7,by rw[HO.out];rfl,by rw[HO.out];exact wJ,LF,(iG.mono (by simp;omega)).trans' _,by rw[HO.out];exact cg.apart hr (iG.trans' _) (by simp;omega) (fun h=>by cases ts with|nil=> rfl|cons x xs=>simp [aj.cells]at h) IZ _ _ _ _ _,nb jn n_ _ _ _ _ _⟩
theorem qa:(Tryz.prog.info? 24).map (·.size)=some 1∧(Tryz.prog.info? 25).map (·.size)=some 1:=⟨by kernel_rfl,by kernel_rfl⟩
structure iI{P:Program}{e:TypeId}{α:Type}(L:iW P e α)(w:World)(E:Nat)(a:Option Addr)(c:Nat)(xs:List α):Prop where
 eZ:cg E none a
 can:Can w E e L.size a xs.length c (xs.flatMap L.cells)
 own:0< xs.length→w.ownsRow E e L.size (.slice a xs.length c) xs.length (xs.flatMap L.cells)
 lt:∀b o q,a=some ⟨b,o,q⟩→b< w.heap.size
theorem iI.of{P:Program}{e:TypeId}{α:Type}{L:iW P e α}{w:World}{E:Nat}{a:Option Addr}{c n:Nat}{xs:List α}(hn:xs.length= n)(di:Can w E e L.size a (0+n) c ([]++xs.flatMap L.cells))(hown:(0<n→ w.ownsRow E e L.size (.slice a (0+n) c) (0+n) ([]++xs.flatMap L.cells))∧(n=0→ a=none∧ c=0)):iI L w E a c xs:=by
 subst hn;rw[Nat.zero_add,List.nil_append]at di hown;refine⟨?_,di,hown.1,?_⟩
 ·by_cases h0:0< xs.length
  ·exact cg.own (hown.1 h0) n_
  ·rw[(hown.2 o_).1];exact cg.nil _ _
 ·intro b o q e;by_cases h0:0< xs.length
  ·exact((hown.1 h0).lt b (by rw[e];rfl)).2
  ·rw[(hown.2 o_).1]at e;cases e
theorem iI.sli{P:Program}{e:TypeId}{α:Type}{L:iW P e α}{w w':World}{E B0:Nat}{a:Option Addr}{c:Nat}{xs:List α}(h:iI L w E a c xs)(hm:cx B0 w.heap.size w w')(hB:B0≤ E)(hp:0< L.size){B:Nat}(N3:B≤ E):
 cK L w' B ⟨a,xs.length,c⟩ xs∧fQ L w' B ⟨a,xs.length,c⟩ xs:=
 ⟨((cK.kK hp h.eZ h.can).eH hm hB n_).mono N3,((⟨h.can,h.own⟩:fQ L w E ⟨a,xs.length,c⟩ xs).eH h.eZ hm hB n_).base N3⟩
theorem Gz{w w1 w2 w3 w4 w5 w6 w7 w8 w9 fg:World}{term ag next:Int}{ts:List aj}{ls:List aV}{ss:List aD}{ds:List bR}{x1 x2 x3 x4:Option Addr}{y1 y2 y3 y4:Nat}(hW:w.heap.size+ 3≤w1.heap.size)(K1:iI aT w2 w1.heap.size x1 y1 ts)(XS:Below w1.heap.size w1 w2)(h3:dt (w.heap.size+1+ 1) w2 w3)(K2:iI aJ w4 w3.heap.size x2 y2 ls)(SV:Below w3.heap.size w3 w4)(h5:dt (w.heap.size+1+ 1) w4 w5)(K3:iI aB w6 w5.heap.size x3 y3 ss)(XW:Below w5.heap.size w5 w6)(h7:dt (w.heap.size+1+ 1) w6 w7)(K4:iI ay w8 w7.heap.size x4 y4 ds)(b78:Below w7.heap.size w7 w8)(h9:dt (w.heap.size+1+ 1) w8 w9)(h10:dt (w.heap.size+1) w9 fg)(hb:Below w.heap.size w fg):
 Dz w ⟨term,ag,next,ts,ls,ss,ds⟩ (.returned (.agg (aw term ag next x1 ts.length y1 x2 ls.length y2 x3 ss.length y3 x4 ds.length y4))) fg:=by
 have s2:=XS.size;have s3:=h3.size;have s4:=SV.size;have s5:=h5.size;have s6:=XW.size;have s7:=h7.size;have s8:=b78.size;have m8:∀E,E≤w8.heap.size→ cx (w.heap.size+3) E w8 fg:=fun E _=>((cx.refl _ _ _).wrote h9 (.inl o_)).wrote h10 (.inl o_)
 have m6:∀E,E≤w6.heap.size→ cx (w.heap.size+3) E w6 fg:=fun E hE=>(((cx.refl _ _ _).wrote h7 (.inl o_)).next b78 o_).trans (m8 E o_)
 have m4:∀E,E≤w4.heap.size→ cx (w.heap.size+3) E w4 fg:=fun E hE=>(((cx.refl _ _ _).wrote h5 (.inl o_)).next XW o_).trans (m6 E o_)
 have m2:∀E,E≤w2.heap.size→ cx (w.heap.size+3) E w2 fg:=fun E hE=>(((cx.refl _ _ _).wrote h3 (.inl o_)).next SV o_).trans (m4 E o_)
 obtain⟨S1,O1⟩:=K1.sli (m2 _ n_) hW d_ (B:=w.heap.size) o_;obtain⟨S2,O2⟩:=K2.sli (m4 _ n_) o_ d_ (B:=w.heap.size) o_;obtain⟨S3,_⟩:=K3.sli (m6 _ n_) o_ d_ (B:=w.heap.size) o_;obtain⟨S4,O4⟩:=K4.sli (m8 _ n_) o_ d_ (B:=w.heap.size) o_;exact⟨⟨term,ag,next,⟨x1,ts.length,y1⟩,⟨x2,ls.length,y2⟩,⟨x3,ss.length,y3⟩,⟨x4,ds.length,y4⟩⟩,rfl,⟨⟨rfl,rfl,rfl,S1,S2,S3,⟨S4,fun _=>O4,fun _ x o q e=>by have:=K4.lt x o q e;have:=(m8 0 o_).size;omega⟩⟩,O1,O2,Ap.of K1.lt K2.eZ o_,Ap.of K1.lt K3.eZ o_,Ap.of K1.lt K4.eZ o_,Ap.of K2.lt K3.eZ o_,Ap.of K2.lt K4.eZ o_,fun x o q e=>by have:=K2.lt x o q e;have:=(m4 0 o_).size;omega⟩,hb⟩
theorem eJ(s:St)(r:Raw)(B:Nat)(w:World)(h:aX w B r s)(cC:s.ax.length≤ 900)(hl2:s.ai.length≤ 900)(cS:s.cd.length≤ 900)(hl4:s.aP.length≤ 900):
 Calls Tryz.prog 23 #[r.agg] w (Dz w s):=by
 obtain⟨term,ag,next,⟨a1,n1,c1⟩,⟨a2,n2,c2⟩,⟨a3,n3,c3⟩,⟨a4,n4,c4⟩⟩:=r;obtain⟨ml,jA,nx,ts,ls,ss,ds⟩:=s;have hq1:=h.term;have hq2:=h.ag;have Hf:=h.next;have l1:=h.cD.len;have l2:=h.cG.len;have l3:=h.eY.len;have l4:=h.ft.len;have R1:=h_ h.cD.row;have R2:=h_ h.cG.row;have R3:=h_ h.eY.row;have R4:=h_ h.ft.row;simp only at hq1 hq2 Hf cC hl2 cS hl4 l1 l2 l3 l4;subst hq1;subst hq2;subst Hf;subst l1;subst l2;subst l3;subst l4;clear h;have cT:Hid (∀w',Below (w.heap.size+2) ((w.alloc (.cells (aw term ag next a1 ts.length c1 a2 ls.length c2 a3 ss.length c3 a4 ds.length c4) 27)).alloc (.cells aS 27)) w'→aU w' w.heap.size (Raw.cells ⟨term,ag,next,⟨a1,ts.length,c1⟩,⟨a2,ls.length,c2⟩,⟨a3,ss.length,c3⟩,⟨a4,ds.length,c4⟩⟩)∧aU w' (w.heap.size+1) (Raw.cells ⟨0,0,0,⟨none,0,0⟩,⟨none,0,0⟩,⟨none,0,0⟩,⟨none,0,0⟩⟩)):=fun w' hb0=>by
  have hb:Below ((w.alloc (.cells (aw term ag next a1 ts.length c1 a2 ls.length c2 a3 ss.length c3 a4 ds.length c4) 27)).alloc (.cells aS 27)).heap.size ((w.alloc (.cells (aw term ag next a1 ts.length c1 a2 ls.length c2 a3 ss.length c3 a4 ds.length c4) 27)).alloc (.cells aS 27)) w':=by rw[show((w.alloc (.cells (aw term ag next a1 ts.length c1 a2 ls.length c2 a3 ss.length c3 a4 ds.length c4) 27)).alloc (.cells aS 27)).heap.size=w.heap.size+ 2 from by simp];exact hb0
  exact⟨aU.aR (ah hb),aU.cn hb⟩
 have kU:Below w.heap.size w ((w.alloc (.cells (aw term ag next a1 ts.length c1 a2 ls.length c2 a3 ss.length c3 a4 ds.length c4) 27)).alloc (.cells aS 27)):=aH;have BW:=h_ kU;go_enter Tryz.func23,Tryz.ntmps23;go_wp2_with(first|(refine aa aG rfl (.tmp 1) rfl w.heap.size 0 rfl ⟨term,ag,next,⟨a1,ts.length,c1⟩,⟨a2,ls.length,c2⟩,⟨a3,ss.length,c3⟩,⟨a4,ds.length,c4⟩⟩ (.agg (aw term ag next a1 ts.length c1 a2 ls.length c2 a3 ss.length c3 a4 ds.length c4)) rfl (cT _ b_).1.range ?_)|(refine av aG rfl (.tmp 3) (.tmp 4) rfl (w.heap.size+1+ 1) ⟨term,ag,next,⟨a1,ts.length,c1⟩,⟨a2,ls.length,c2⟩,⟨a3,ss.length,c3⟩,⟨a4,ds.length,c4⟩⟩ (Raw.cells ⟨0,0,0,⟨none,0,0⟩,⟨none,0,0⟩,⟨none,0,0⟩,⟨none,0,0⟩⟩) rfl rfl (aU.dR b_) rfl ?_;intro v1 fI hw;have V1:Hid (aU v1 (w.heap.size+1+ 1) (Raw.cells ⟨term,ag,next,⟨a1,ts.length,c1⟩,⟨a2,ls.length,c2⟩,⟨a3,ss.length,c3⟩,⟨a4,ds.length,c4⟩⟩)):=fI;have q1:v1.heap.size= w.heap.size+3:= by{rw[hw.size];simp};have BB1:Hid (Below (w.heap.size+2) ((w.alloc (.cells (aw term ag next a1 ts.length c1 a2 ls.length c2 a3 ss.length c3 a4 ds.length c4) 27)).alloc (.cells aS 27)) v1):=(b_.alloc (by simp) _).trans (hw.below _ n_);clear fI hw)|(refine bE rfl (.tmp 5) (.const (.slice none 0 0)) rfl cF.2.1 (w.heap.size+1+ 1) 3 _ (.slice none 0 0) rfl rfl rfl rfl V1.out (by simp) ?_;intro v2 fI hw;have V2:Hid (aU v2 (w.heap.size+1+ 1) (Raw.cells ⟨term,ag,next,⟨none,0,0⟩,⟨a2,ls.length,c2⟩,⟨a3,ss.length,c3⟩,⟨a4,ds.length,c4⟩⟩)):=fI;have BB2:=h_ (BB1.out.trans (hw.below _ n_));have q2:=hw.size;clear fI hw)|(refine bE rfl (.tmp 6) (.const (.slice none 0 0)) rfl cF.1 (w.heap.size+1+ 1) 4 _ (.slice none 0 0) rfl rfl rfl rfl V2.out (by simp) ?_;intro v3 fI hw;have V3:Hid (aU v3 (w.heap.size+1+ 1) (Raw.cells ⟨term,ag,next,⟨none,0,0⟩,⟨none,0,0⟩,⟨a3,ss.length,c3⟩,⟨a4,ds.length,c4⟩⟩)):=fI;have BB3:=h_ (BB2.out.trans (hw.below _ n_));have q3:=hw.size;clear fI hw)|(refine bE rfl (.tmp 7) (.const (.slice none 0 0)) rfl qa.1 (w.heap.size+1+ 1) 5 _ (.slice none 0 0) rfl rfl rfl rfl V3.out (by simp) ?_;intro v4 fI hw;have V4:Hid (aU v4 (w.heap.size+1+ 1) (Raw.cells ⟨term,ag,next,⟨none,0,0⟩,⟨none,0,0⟩,⟨none,0,0⟩,⟨a4,ds.length,c4⟩⟩)):=fI;have BB4:=h_ (BB3.out.trans (hw.below _ n_));have q4:=hw.size;clear fI hw)|(refine bE rfl (.tmp 8) (.const (.slice none 0 0)) rfl qa.2 (w.heap.size+1+ 1) 6 _ (.slice none 0 0) rfl rfl rfl rfl V4.out (by simp) ?_;intro v5 fI hw;have V5:Hid (aU v5 (w.heap.size+1+ 1) (Raw.cells ⟨term,ag,next,⟨none,0,0⟩,⟨none,0,0⟩,⟨none,0,0⟩,⟨none,0,0⟩⟩)):=fI;have BB5:=h_ (BB4.out.trans (hw.below _ n_));have q5:=hw.size;have k3:=V5.out.cell (j:=3) rfl;have m3:=(cT v5 BB5.out).1.cell (j:=3) rfl;clear fI hw)|(at_builtin;refine dU (aT.elem Tryz.underlying22) rfl (.tmp 10) (.tmp 12) rfl v5.heap.size none 0 0 [] rfl (Can.nil _ _ _ _) _ ts.length _ (ts.flatMap aT.cells) rfl (aT.length _) (R1.out.below (BW.out.trans (BB5.out.mono o_))) (aT.rI _) (by show(0+ts.length)*40≤ _;omega) n_ ?_;intro x1 y1 v6 di hg hbb hown;have K1:=h_ (iI.of rfl di hown);have b1:=h_ hbb;have V6:=h_ (V5.out.below hbb o_);have BB6:=h_ (BB5.out.trans (hbb.mono o_));have q6:=hbb.size;clear di hg hbb hown k3 m3)|(refine bE rfl (.tmp 14) (.tmp 13) rfl cF.2.1 (w.heap.size+1+ 1) 3 _ (.slice x1 ts.length y1) rfl rfl rfl rfl V6.out (show 3<7 by decide) ?_;intro v7 fI hw;have V7:Hid (aU v7 (w.heap.size+1+ 1) (Raw.cells ⟨term,ag,next,⟨x1,ts.length,y1⟩,⟨none,0,0⟩,⟨none,0,0⟩,⟨none,0,0⟩⟩)):=fI;have BB7:=h_ (BB6.out.trans (hw.below _ n_));have q7:=hw.size;have H1:=h_ hw;have k3:=V7.out.cell (j:=4) rfl;have m3:=(cT v7 BB7.out).1.cell (j:=4) rfl;clear fI hw)|(at_builtin;refine dU (aJ.elem Tryz.underlying23) rfl (.tmp 16) (.tmp 18) rfl v7.heap.size none 0 0 [] rfl (Can.nil _ _ _ _) _ ls.length _ (ls.flatMap aJ.cells) rfl (aJ.length _) (R2.out.below (BW.out.trans (BB7.out.mono o_))) (aJ.rI _) (by show(0+ls.length)*56≤ _;omega) n_ ?_;intro x2 y2 v8 di hg hbb hown;have K2:=h_ (iI.of rfl di hown);have b2:=h_ hbb;have V8:=h_ (V7.out.below hbb o_);have BB8:=h_ (BB7.out.trans (hbb.mono o_));have q8:=hbb.size;clear di hg hbb hown k3 m3)|(refine bE rfl (.tmp 20) (.tmp 19) rfl cF.1 (w.heap.size+1+ 1) 4 _ (.slice x2 ls.length y2) rfl rfl rfl rfl V8.out (show 4<7 by decide) ?_;intro v9 fI hw;have V9:Hid (aU v9 (w.heap.size+1+ 1) (Raw.cells ⟨term,ag,next,⟨x1,ts.length,y1⟩,⟨x2,ls.length,y2⟩,⟨none,0,0⟩,⟨none,0,0⟩⟩)):=fI;have BB9:=h_ (BB8.out.trans (hw.below _ n_));have q9:=hw.size;have H2:=h_ hw;have k3:=V9.out.cell (j:=5) rfl;have m3:=(cT v9 BB9.out).1.cell (j:=5) rfl;clear fI hw)|(at_builtin;refine dU (aB.elem Tryz.underlying24) rfl (.tmp 22) (.tmp 24) rfl v9.heap.size none 0 0 [] rfl (Can.nil _ _ _ _) _ ss.length _ (ss.flatMap aB.cells) rfl (aB.length _) (R3.out.below (BW.out.trans (BB9.out.mono o_))) (aB.rI _) (by show(0+ss.length)*56≤ _;omega) n_ ?_;intro x3 y3 v10 di hg hbb hown;have K3:=h_ (iI.of rfl di hown);have b3:=h_ hbb;have V10:=h_ (V9.out.below hbb o_);have aal:=h_ (BB9.out.trans (hbb.mono o_));have L4:=hbb.size;clear di hg hbb hown k3 m3)|(refine bE rfl (.tmp 26) (.tmp 25) rfl qa.1 (w.heap.size+1+ 1) 5 _ (.slice x3 ss.length y3) rfl rfl rfl rfl V10.out (show 5<7 by decide) ?_;intro v11 fI hw;have V11:Hid (aU v11 (w.heap.size+1+ 1) (Raw.cells ⟨term,ag,next,⟨x1,ts.length,y1⟩,⟨x2,ls.length,y2⟩,⟨x3,ss.length,y3⟩,⟨none,0,0⟩⟩)):=fI;have Tz:=h_ (aal.out.trans (hw.below _ n_));have RJ:=hw.size;have H3:=h_ hw;have k3:=V11.out.cell (j:=6) rfl;have m3:=(cT v11 Tz.out).1.cell (j:=6) rfl;clear fI hw)|(at_builtin;refine dU (ay.elem Tryz.underlying25) rfl (.tmp 28) (.tmp 30) rfl v11.heap.size none 0 0 [] rfl (Can.nil _ _ _ _) _ ds.length _ (ds.flatMap ay.cells) rfl (ay.length _) (R4.out.below (BW.out.trans (Tz.out.mono o_))) (ay.rI _) (by show(0+ds.length)*64≤ _;omega) n_ ?_;intro x4 y4 v12 di hg hbb hown;have K4:=h_ (iI.of rfl di hown);have b4:=h_ hbb;have V12:=h_ (V11.out.below hbb o_);have aam:=h_ (Tz.out.trans (hbb.mono o_));have Tp:=hbb.size;clear di hg hbb hown k3 m3)|(refine bE rfl (.tmp 32) (.tmp 31) rfl qa.2 (w.heap.size+1+ 1) 6 _ (.slice x4 ds.length y4) rfl rfl rfl rfl V12.out (show 6<7 by decide) ?_;intro v13 fI hw;have V13:Hid (aU v13 (w.heap.size+1+ 1) (Raw.cells ⟨term,ag,next,⟨x1,ts.length,y1⟩,⟨x2,ls.length,y2⟩,⟨x3,ss.length,y3⟩,⟨x4,ds.length,y4⟩⟩)):=fI;have TA:=h_ (aam.out.trans (hw.below _ n_));have Tq:=hw.size;have H4:=h_ hw;have k3:=V13.out.cell (j:=6) rfl;have m3:=(cT v13 TA.out).1.cell (j:=6) rfl;clear fI hw)|(refine aa aG rfl (.tmp 3) rfl (w.heap.size+1+ 1) 0 rfl ⟨term,ag,next,⟨x1,ts.length,y1⟩,⟨x2,ls.length,y2⟩,⟨x3,ss.length,y3⟩,⟨x4,ds.length,y4⟩⟩ (.agg (aw term ag next x1 ts.length y1 x2 ls.length y2 x3 ss.length y3 x4 ds.length y4)) rfl V13.out.range ?_)|(refine av aG rfl (.tmp 2) (.tmp 33) rfl (w.heap.size+1) ⟨term,ag,next,⟨x1,ts.length,y1⟩,⟨x2,ls.length,y2⟩,⟨x3,ss.length,y3⟩,⟨x4,ds.length,y4⟩⟩ _ rfl rfl (cT v13 TA.out).2 rfl ?_;intro vz fI hw;have VZ:=h_ fI;have HZ:=h_ hw;clear fI hw));obtain⟨k0,k1,k2,k3,k4,k5,k6⟩:=bP VZ.out.range;refine bodyPost_ret (v:= .agg (aw term ag next x1 ts.length y1 x2 ls.length y2 x3 ss.length y3 x4 ds.length y4)) (by simp[results,Tryz.results23,go_sem,k0,k1,k2,k3,k4,k5,k6]) rfl ?_;exact Gz o_ K1.out b1.out H1.out K2.out b2.out H2.out K3.out b3.out H3.out K4.out b4.out H4.out HZ.out ((BW.out.trans (TA.out.mono o_)).trans (HZ.below _ o_))
end Go.Proofs.YtfdmhpohfjbpfaaGreat
