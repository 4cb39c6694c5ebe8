import Derived.Test.YtfdmhpohfjbpfaaGreatSq21
import Derived.Test.YtfdmhpohfjbpfaaGreatSqStaCapP
set_option linter.unusedVariables false
set_option linter.unusedSimpArgs false
namespace Go.Proofs.YtfdmhpohfjbpfaaGreat
open Go.ChangeShapes Go.WideShapes Go.ChangeAt Go.RowKit
set_option maxRecDepth 100000
theorem Rs.keep {S:Nat→ Prop} {w w':World} {g c:Nat} {a:Option Addr} {bs:List UInt8} {st:Except Nat Nat} (h:Rs w g a c bs st) (hk:Keep S w w') (hs:∀k,S k→Off g (rowA a bs) k):Rs w' g a c bs st:=by
 cases st with
 |ok p=>exact ⟨h.1.keep hk hs,h.2⟩
 |error f=>exact Rd0.keep h hk hs
theorem Rs.put {w:World} {g c k i:Nat} {a:Option Addr} {bs:List UInt8} {st:Except Nat Nat} {v:Value} (h:Rs w g a c bs st) (hk:Off g (rowA a bs) k):Rs (w.setCell ⟨k,i,none⟩ v) g a c bs st:=h.keep ((Keep.refl (fun j=>j= k) w).set _ _ rfl) (fun j e=>by subst e;exact hk)
theorem Rs.new {w:World} {g c:Nat} {a:Option Addr} {bs:List UInt8} {st:Except Nat Nat} (h:Rs w g a c bs st) {k:Nat} (hk:w.heap.size≤ k):Off g (rowA a bs) k:=by
 obtain⟨x,y,hb,-⟩:=h.at
 exact hb.new hk
theorem Rs.lt {w:World} {g c:Nat} {a:Option Addr} {bs:List UInt8} {st:Except Nat Nat} (h:Rs w g a c bs st):g< w.heap.size:=by
 obtain⟨x,y,hb,-⟩:=h.at
 exact hb.box.lt (by simp)
theorem Box.turn {w w':World} {g x:Nat} {cs:List Value} (h:Box w x cs) (ht:Turn g g w w') (h0:0< cs.length) (hx:x≠ g):Box w' x cs:=h.keep h0 ht (by have:=h.lt h0;omega)
theorem Turn.bel {w w':World} {g:Nat} {b:Nat} (h:Turn g g w w') (hb:b≤ w.heap.size) (hg:b≤ g):Below b w w':=Keep.bel h hb (fun k e=>by omega)
def RetBegin (w:World) (a:Option Addr) (c:Nat) (bs:List UInt8) (e:Ending) (w':World):Prop:= e= .returned (.tuple #[.pointer (some ⟨w.heap.size,0,none⟩),.int .i64 0])∧Rs w' w.heap.size a c bs (.ok 0)∧Below w.heap.size w w'
theorem begin_any (a:Option Addr) (c:Nat) (bs:List UInt8) (w:World) (hr:RowB w a bs) (hc:bs.length≤ c) (hl:bs.length≤ 1048576):
 Calls Tryz.prog 32 #[.slice a bs.length c] w (RetBegin w a c bs):=by
 have hB:Below w.heap.size w (w.alloc (.cells #[.slice a bs.length c,.int .i64 0,.int .i64 (-1)] 113)):=mid_alloc' (Below.refl _ _)
 have hbx:Box (w.alloc (.cells #[.slice a bs.length c,.int .i64 0,.int .i64 (-1)] 113)) w.heap.size [.slice a bs.length c,.int .i64 (0:Nat),.int .i64 (-1)]:=Box.of_alloc (cs:=[.slice a bs.length c,.int .i64 0,.int .i64 (-1)]) (Below.refl _ _)
 have hlow:∀b o s,rowA a bs=some ⟨b,o,s⟩→b< w.heap.size:=fun b o s h=>by
  unfold rowA at h
  split at h
  ·cases h
  ·rename_i h0
   rcases hr with h1|⟨b1,o1,rfl,h1⟩
   ·exact absurd (by simpa using h1) h0
   ·have:=Row.lt (.inr ⟨b1,o1,rfl,h1⟩) (by simpa using h0)
    simp only[Option.some.injEq,Addr.mk.injEq]at h
    omega
 have HR:=Lib.hid (And.intro (⟨⟨hbx,hr.below hB,hc,hlow⟩,by omega⟩:Rs _ w.heap.size a c bs (.ok 0)) hB)
 clear hr hlow hbx hB
 go_enter Tryz.func32,Tryz.ntmps32
 go_wp2
 go_ret2
 exact⟨rfl,HR.out.1,HR.out.2⟩
def RetEnd (w:World) (g:Nat) (bs:List UInt8) (st:Except Nat Nat) (e:Ending) (w':World):Prop:=
 Turn g g w w'∧((∃f: Nat,e= .returned (.tuple #[.int .i64 f,.int .i64 50])∧(st= .error f∨(st= .ok f∧f< bs.length)))∨(e= .returned (.tuple #[.int .i64 0,.int .i64 0])∧∃p,st= .ok p∧¬p< bs.length))
set_option maxHeartbeats 1000000 in
theorem end_any (g c:Nat) (a:Option Addr) (bs:List UInt8) (st:Except Nat Nat) (w:World) (hl:bs.length≤ 2000000) (h:Rs w g a c bs st):
 Calls Tryz.prog 37 #[.pointer (some ⟨g,0,none⟩)] w (RetEnd w g bs st):=by
 cases st with
 |error f=>
  have k0:=h.box.cell (j:=0) rfl
  have k1:=h.box.cell (j:=1) rfl
  have k2:=h.box.cell (j:=2) rfl
  have d1:decide ((f:Int)<0)=false:= decide_eq_false (by omega)
  have HQ:=Lib.hid (fun n=>(below_drewN (Below.refl w.heap.size w) n))
  clear h
  go_enter Tryz.func37,Tryz.ntmps37
  go_upto_region 1 with(fail)
  go_quiet (fail)
  go_wp2
  go_ret2
  exact⟨Turn.below (HQ.out _),.inl ⟨f,rfl,.inl rfl⟩⟩
 |ok p=>
  obtain⟨hb,hp⟩:=h
  have k0:=hb.box.cell (j:=0) rfl
  have k1:=hb.box.cell (j:=1) rfl
  have k2:=hb.box.cell (j:=2) rfl
  have z2:=hb.box.froz (j:=2) (by simp)
  have HQ:=Lib.hid (fun n=>(below_drewN (Below.refl w.heap.size w) n))
  have d1:decide ((-1: Int)<0)=true:= rfl
  by_cases hlt:p< bs.length
  ·have d2:decide (p<bs.length)=true:= decide_eq_true hlt
   clear hb
   go_enter Tryz.func37,Tryz.ntmps37
   go_upto_region 1 with(fail)
   go_quiet (fail)
   go_wp2
   go_ret2
   exact⟨(Turn.below (HQ.out _)).set _ _ (.inl rfl),.inl ⟨p,rfl,.inr ⟨rfl,hlt⟩⟩⟩
  ·have d2:decide (p<bs.length)=false:= decide_eq_false hlt
   clear hb
   go_enter Tryz.func37,Tryz.ntmps37
   go_upto_region 1 with(fail)
   go_quiet (fail)
   go_wp2
   go_ret2
   exact⟨Turn.below (HQ.out _),.inr ⟨rfl,p,rfl,hlt⟩⟩
theorem read_bad {α:Type} {z x:α} {P:List UInt8→Nat→ Got α} {bs:List UInt8} {st:Except Nat Nat} {f:Nat} (h:Link P bs (.ok 0) x st) (hl:bs.length≤ 1048576) (he:st= .error f∨(st= .ok f∧f< bs.length)):readP z P bs=(z,f,50):=by
 unfold Link at h
 unfold readP
 rw[if_neg (by omega)]
 rcases he with rfl|⟨rfl,hf⟩
 ·cases hp:P bs 0 with
  |ok y=>obtain ⟨v,q⟩:=y;simp[hp]at h
  |error e=>simp only[hp]at h;cases h;rfl
 ·cases hp:P bs 0 with
  |ok y=>
   obtain⟨v,q⟩:=y
   simp only[hp]at h
   obtain⟨rfl,hq⟩:=h
   cases hq
   show(if _ then _ else _)=_
   rw[if_pos hf]
  |error e=>simp [hp]at h
theorem read_ok {α:Type} {z x:α} {P:List UInt8→Nat→ Got α} {bs:List UInt8} {p:Nat} (h:Link P bs (.ok 0) x (.ok p)) (hl:bs.length≤ 1048576) (he:¬p< bs.length):readP z P bs=(x,0,0):=by
 unfold Link at h
 unfold readP
 rw[if_neg (by omega)]
 cases hp:P bs 0 with
 |ok y=>
  obtain⟨v,q⟩:=y
  simp only[hp]at h
  obtain⟨rfl,hq⟩:=h
  cases hq
  show(if _ then _ else _)=_
  rw[if_neg he]
 |error e=>simp [hp]at h
theorem Link.next {α β:Type} {P:List UInt8→Nat→ Got α} {F:α→ List UInt8→Nat→ Got β} {bs:List UInt8} {st st1:Except Nat Nat} {v:α} {R:β→ Except Nat Nat→Prop} (hc:∀y st',Link (fun l p=>bindP (P l p) fun a q=>F a l q) bs st y st'→R y st') (hk:Link P bs st v st1):
 ∀y st',Link (F v) bs st1 y st'→R y st':=fun y st' h=>hc y st' (Link.bind hk h)
theorem times_bad {α:Type} {one:List UInt8→Nat→ Got α} {l:List UInt8}:∀ {k m p f:Nat},timesP one k l p= .error f→k≤ m→timesP one m l p= .error f
 |0,_,_,_,h,_=>by cases h
 |k+ 1,0,_,_,_,hm=>absurd hm (by omega)
 |k+ 1,m+1,p,f,h,hm=>by
  simp only[timesP]at h ⊢
  cases ho:one l p with
  |error e=>rw [ho]at h;exact h
  |ok y=>
   obtain⟨x,q⟩:=y
   rw[ho]at h
   simp only[bindP]at h ⊢
   cases ht:timesP one k l q with
   |error e=>
    rw[ht]at h
    simp only[Except.error.injEq]at h
    subst h
    rw[times_bad ht (by omega:k≤ m)]
   |ok z=>rw [ht]at h;cases h
theorem Link.snoc {α:Type} {one:List UInt8→Nat→ Got α} {bs:List UInt8} {st st1 st2:Except Nat Nat} {k:Nat} {xs:List α} {v:α} (h:Link (timesP one k) bs st xs st1) (h2:Link one bs st1 v st2):Link (timesP one (k+1)) bs st (xs++[v]) st2:=by
 cases st with
 |error f=>
  obtain rfl:st1= .error f:=h
  exact h2
 |ok p=>
  cases ht:timesP one k bs p with
  |error f=>
   unfold Link at h
   simp only[ht]at h
   subst h
   obtain rfl:st2= .error f:=h2
   exact Link.bad _ (times_bad ht (Nat.le_succ k))
  |ok y=>
   obtain⟨ys,q⟩:=y
   unfold Link at h
   simp only[ht]at h
   obtain⟨rfl,rfl⟩:=h
   cases ho:one bs q with
   |error f=>
    unfold Link at h2
    simp only[ho]at h2
    subst h2
    exact Link.bad _ (times_fail ht ho (Nat.lt_succ_self k))
   |ok z=>
    obtain⟨x,q2⟩:=z
    unfold Link at h2
    simp only[ho]at h2
    obtain⟨rfl,rfl⟩:=h2
    exact Link.ok (times_snoc ht ho)
theorem cnt_kk {bs:List UInt8} {st st':Except Nat Nat} {v size:Nat} (h:Link (countP size) bs st v st') (hb:bs.length≤ 250000*size) (hv:(∃f,st'= .error f)→v= 0):v≤ 250000:=by
 cases st with
 |error f=>have:= hv ⟨f,h⟩;omega
 |ok p=>
  cases hc:countP size bs p with
  |error f=>unfold Link at h;simp only[hc]at h;have:=hv ⟨f,h⟩;omega
  |ok y=>
   obtain⟨x,q⟩:=y
   unfold Link at h
   simp only[hc]at h
   obtain⟨rfl,-⟩:=h
   have h1:=count_le hc
   have h2:(bs.length-q)/size≤ bs.length/size:= Nat.div_le_div_right (Nat.sub_le _ _)
   have h3:bs.length/ size≤250000:= by
    by_cases h0:size= 0
    ·subst h0;simp
    ·exact Nat.div_le_of_le_mul (by rw[Nat.mul_comm];exact hb)
   omega
structure Lr (w w':World) (g X ox:Nat) (a:Option Addr) (c:Nat) (bs:List UInt8) (st:Except Nat Nat) (cs:List Value) (T:TypeId) (size:Nat) (a1:Option Addr) (n c1:Nat) (xs:List Value):Prop where
 rs:Rs w' g a c bs st
 turn:Turn g X w w'
 box:Box w' X (cs.set ox (.slice a1 n c1))
 can:Can w' w.heap.size T size a1 n c1 xs
 far:∀b o s,a1=some ⟨b,o,s⟩→w.heap.size≤ b∧b< w'.heap.size
 gl:g< w.heap.size
 xl:X< w.heap.size
 off:Off g (rowA a bs) X
 offs:∀k,w.heap.size≤k→ Off g (rowA a bs) k
 ox:ox< cs.length
theorem Lr.one {w wr w2:World} {g X ox c T size n c1:Nat} {a a1:Option Addr} {bs:List UInt8} {st st':Except Nat Nat} {cs xs:List Value} (h:Lr w wr g X ox a c bs st cs T size a1 n c1 xs) (ht:Turn g g wr w2) (hs:Rs w2 g a c bs st'):Lr w w2 g X ox a c bs st' cs T size a1 n c1 xs:=by
 have hsz:=h.turn.size
 have hg:=h.gl
 have hm:Mid w.heap.size wr.heap.size wr w2:=⟨ht.size,fun k h1 h2=>ht.block k h2 (by omega)⟩
 exact⟨hs,Keep.trans h.turn (ht.mono fun k _ e=>by rcases e with e|e| e;exact .inl e;exact .inl e;exact .inr (.inr (by omega))),h.box.keep (by rw[List.length_set];have:=h.ox;omega) ht (by have:=h.off.ne;have:=h.xl;omega),can_mid h.can hm (fun b o s e=> .inl (h.far b o s e).1) (Nat.le_refl _) (Nat.le_refl _),fun b o s e=>⟨(h.far b o s e).1,by have:=(h.far b o s e).2;have:=ht.size;omega⟩,hg,h.xl,h.off,h.offs,h.ox⟩
theorem Lr.below {w wr w2:World} {g X ox c T size n c1:Nat} {a a1:Option Addr} {bs:List UInt8} {st:Except Nat Nat} {cs xs:List Value} (h:Lr w wr g X ox a c bs st cs T size a1 n c1 xs) (hb:Below wr.heap.size wr w2):Lr w w2 g X ox a c bs st cs T size a1 n c1 xs:=h.one (Turn.below hb) (h.rs.below hb)
theorem Lr.push {w w2 W0 w3:World} {g X ox c T size n c1 c2:Nat} {a a1 a2:Option Addr} {bs:List UInt8} {st:Except Nat Nat} {cs xs ns:List Value} (h:Lr w w2 g X ox a c bs st cs T size a1 n c1 xs) (hb:Below w2.heap.size w2 W0)
 (hcan:Can w3 w.heap.size T size a2 (n+1) c2 (xs++ns)) (hg:W0.grownBy w3 (Value.slice a1 n c1).ownBlock) (hown:∀b o s,a2=some ⟨b,o,s⟩→w.heap.size≤ b) (hlt:∀b o s,a2=some ⟨b,o,s⟩→b< w3.heap.size):
 Lr w (w3.setCell ⟨X,ox,none⟩ (.slice a2 (n+1) c2)) g X ox a c bs st cs T size a2 (n+1) c2 (xs++ns)∧Box w3 X (cs.set ox (.slice a1 n c1))∧(∀k,k<w2.heap.size→ (∀o s,a1≠some ⟨k,o,s⟩)→w3.heap[k]? =w2.heap[k]?):=by
 have hs:=h.turn.size
 have hgl:=h.gl
 have hx:=h.xl
 have ow:∀k,(∀o s,a1≠some ⟨k,o,s⟩)→some k≠(Value.slice a1 n c1).ownBlock:=fun k hk e=>by
  cases a1 with
  |none=> simp[Value.ownBlock]at e
  |some ad=>
   obtain⟨y,u,v⟩:=ad
   simp[Value.ownBlock]at e
   subst e
   exact hk u v rfl
 have hkeep:∀k,k<w2.heap.size→ (∀o s,a1≠some ⟨k,o,s⟩)→w3.heap[k]? =w2.heap[k]?:=fun k hk hne=>by
  rw[hg.block k (Nat.lt_of_lt_of_le hk hb.size) (ow k hne),hb.block k hk]
 have hks:Keep (fun k=>w.heap.size≤ k) w2 w3:=⟨hg.os.trans hb.os,hg.tape.trans hb.tape,hg.output.trans hb.output,Nat.le_trans hb.size hg.size,fun k hk hn=>hkeep k hk (fun o s e=>hn (h.far k o s e).1)⟩
 have hbx:Box w3 X (cs.set ox (.slice a1 n c1)):=h.box.keep (by rw[List.length_set];have:=h.ox;omega) hks (by omega)
 have hset:=hbx.set (i:=ox) (by rw[List.length_set];exact h.ox) (.slice a2 (n+1) c2)
 rw[List.set_set]at hset
 refine⟨⟨(h.rs.keep hks h.offs).put h.off,?_,hset,?_,fun b o s e=>⟨hown b o s e,by have:=hlt b o s e;simpa using this⟩,hgl,hx,h.off,h.offs,h.ox⟩,hbx,hkeep⟩
 ·exact(Keep.trans h.turn (hks.mono fun k _ e=> .inr (.inr e))).set _ _ (.inr (.inl rfl))
 ·exact can_mid hcan ((Mid.refl w.heap.size w3.heap.size w3).setCell ⟨X,ox,none⟩ _ (.inl hx)) (fun b o s e=> .inl (hown b o s e)) (Nat.le_refl _) (Nat.le_refl _)
structure FreshRow {P:Program} {e:TypeId} {α:Type} (L:Lay P e α) (w:World) (E:Nat) (a:Option Addr) (c:Nat) (xs:List α):Prop where
 near:Near E none a
 can:Can w E e L.size a xs.length c (xs.flatMap L.cells)
 own:0< xs.length→w.ownsRow E e L.size (.slice a xs.length c) xs.length (xs.flatMap L.cells)
 lt:∀b o q,a=some ⟨b,o,q⟩→b< w.heap.size
theorem FreshRow.of {P:Program} {e:TypeId} {α:Type} {L:Lay P e α} {w:World} {E:Nat} {a:Option Addr} {c n:Nat} {xs:List α} (hn:xs.length= n) (hcan:Can w E e L.size a (0+n) c ([]++xs.flatMap L.cells))
 (hown:(0<n→ w.ownsRow E e L.size (.slice a (0+n) c) (0+n) ([]++xs.flatMap L.cells))∧(n=0→ a=none∧ c=0)):FreshRow L w E a c xs:=by
 subst hn
 rw[Nat.zero_add,List.nil_append]at hcan hown
 refine⟨?_,hcan,hown.1,?_⟩
 ·by_cases h0:0< xs.length
  ·exact Near.own (hown.1 h0) (Nat.le_refl _)
  ·rw[(hown.2 (by omega)).1];exact Near.nil _ _
 ·intro b o q e
  by_cases h0:0< xs.length
  ·exact((hown.1 h0).lt b (by rw[e];rfl)).2
  ·rw[(hown.2 (by omega)).1]at e;cases e
def NearR (B:Nat) (q:Raw):Prop:= Near B none q.ten.a∧Near B none q.lea.a∧Near B none q.ses.a∧Near B none q.dsk.a
theorem NearR.mono {B B':Nat} {q:Raw} (h:NearR B q) (hB:B'≤ B):NearR B' q:=⟨h.1.mono hB,h.2.1.mono hB,h.2.2.1.mono hB,h.2.2.2.mono hB⟩
section
variable {P:Program} {e:TypeId} {α:Type} {L:Lay P e α}
theorem LRow.block {w7:World} {a:Option Addr} {xs:List α} (h7:LRow L w7 a xs) (h0:xs≠ []) {b o:Nat} {s:Option Nat} (hs:a= some ⟨b,o,s⟩):b< w7.heap.size:=by
 have hc0:xs.flatMap L.cells≠[]:=by
  intro h1
  have h2:=congrArg List.length h1
  rw[L.length,List.length_nil,Nat.mul_eq_zero]at h2
  have:=L.pos
  have:0< xs.length:=List.length_pos_iff.2 h0
  omega
 rcases h7 with h|⟨b',o',rfl,hc⟩
 ·exact absurd h hc0
 ·have hlt:=Row.lt (.inr ⟨b',o',rfl,hc⟩) hc0
  cases hs
  exact hlt
end
theorem bkF_at {ts:List Tenant} {id:Int} {k:Nat} (hk:k< ts.length) (hno:∀j (h:j< ts.length),j<k→ ts[j].id≠id) (he:ts[k].id=id):bkF ts id=(ts[k].bucket,ts[k].rate,ts[k].burst):=by
 have:ts.find? (fun x=>x.id== id)=some ts[k]:=by
  rw[List.find?_eq_some_iff_getElem]
  exact⟨by simpa using he,k,hk,rfl,fun j hj=>by simpa using hno j (by omega) hj⟩
 unfold bkF;rw[this]
theorem bkF_none {ts:List Tenant} {id:Int} (hno:∀j (h:j< ts.length),ts[j].id≠id):bkF ts id=(0,0,0):=by
 have:ts.find? (fun x=>x.id== id)=none:= by
  rw[List.find?_eq_none]
  intro x hx
  obtain⟨j,hj,rfl⟩:=List.mem_iff_getElem.1 hx
  simpa using hno j hj
 unfold bkF;rw[this]
theorem out19_any (s:St) (r:Raw) (B:Nat) (id:Int) (w:World) (h:StAt w B r s) (hl:s.leas.length≤ 1000) (hf:Fits s.leas):
 Calls Tryz.prog 17 #[r.agg,.int .i64 id] w fun e w'=>e= .returned (.int .i64 (outL s.leas id))∧Below w.heap.size w w':=by
 have HB:Hid (Below w.heap.size w (w.alloc (.cells (Raw.cells r).toArray 27))):=mid_alloc' (Below.refl _ _)
 have HG:Hid (Bex (w.alloc (.cells (Raw.cells r).toArray 27)) w.heap.size (Raw.cells r)):=Bex.new w (Raw.cells r) _
 have HO:=Lib.hid (fun w' (hb:Below w.heap.size w w')=>refout_any s.leas r id w' h.lea.len hl hf (h.lea.row.below hb))
 clear h
 obtain⟨term,stamp,next,⟨a1,n1,c1⟩,⟨a2,n2,c2⟩,⟨a3,n3,c3⟩,⟨a4,n4,c4⟩⟩:=r
 go_enter Tryz.func17,Tryz.ntmps17
 go_wp2_with(first|((with_reducible refine at_load 27 (.tmp 2) ?_);refine wpList_load_as laySt rfl (.tmp 2) rfl w.heap.size 0 rfl ⟨term,stamp,next,⟨a1,n1,c1⟩,⟨a2,n2,c2⟩,⟨a3,n3,c3⟩,⟨a4,n4,c4⟩⟩ (Raw.agg ⟨term,stamp,next,⟨a1,n1,c1⟩,⟨a2,n2,c2⟩,⟨a3,n3,c3⟩,⟨a4,n4,c4⟩⟩) rfl HG.out.box.range ?_)|(go_at_call 31;((with_reducible refine(HO.out _ HB.out).mono ?_);rintro e w2 ⟨rfl,hb⟩;have HB2:=Lib.hid (HB.out.trans (hb.mono HB.out.size));clear hb)))
 go_returns
 exact⟨rfl,HB2.out⟩
set_option maxHeartbeats 2000000 in
theorem bucket_any (s:St) (r:Raw) (B:Nat) (id:Int) (w:World) (h:StAt w B r s) (hl:s.tens.length≤ 900):
 Calls Tryz.prog 16 #[r.agg,.int .i64 id] w fun e w'=>e= .returned (.tuple #[.int .i64 (bkF s.tens id).1,.int .i64 (bkF s.tens id).2.1,.int .i64 (bkF s.tens id).2.2])∧Below w.heap.size w w':=by
 have HB:Hid (Below w.heap.size w (w.alloc (.cells (Raw.cells r).toArray 27))):=mid_alloc' (Below.refl _ _)
 have HG:Hid (Bex (w.alloc (.cells (Raw.cells r).toArray 27)) w.heap.size (Raw.cells r)):=Bex.new w (Raw.cells r) _
 have hn:=h.ten.len
 have HR:Hid (LRow layTen (w.alloc (.cells (Raw.cells r).toArray 27)) r.ten.a s.tens):=Lib.hid (h.ten.row.below HB.out)
 have HAT:=Lib.hid (fun k (hk:k< s.tens.length)=>bkF_at (id:=id) hk)
 have HNO:=Lib.hid (bkF_none (ts:=s.tens) (id:=id))
 generalize bkF s.tens id=res at HAT HNO ⊢
 obtain⟨term,stamp,next,⟨a1,n1,c1⟩,⟨a2,n2,c2⟩,⟨a3,n3,c3⟩,⟨a4,n4,c4⟩⟩:=r
 simp only at hn
 subst hn
 clear h
 simp only at HR
 go_enter Tryz.func16,Tryz.ntmps16
 go_upto_region 1 with fail
 obtain⟨w1,hw1⟩:∃y,y=(w.alloc (.cells #[.int .i64 term,.int .i64 stamp,.int .i64 next,.slice a1 s.tens.length c1,.slice a2 n2 c2,.slice a3 n3 c3,.slice a4 n4 c4] 27)):=⟨_,rfl⟩
 rw[←hw1]at HB HG ⊢
 replace HR:Hid (LRow layTen w1 a1 s.tens):=Lib.hid (by rw[hw1];exact HR.out)
 clear hw1
 have g3:=HG.out.box.cell (j:=3) rfl
 go_wp2
 go_loopw [11] (fun si wr=>∃k: Nat,k≤s.tens.length∧ si= .int .i64 k∧Hid (∀j (h:j< s.tens.length),j<k→ s.tens[j].id≠id)∧w1= wr) (fun si _=>s.tens.length- (intOf si).toNat)
 case atStart=>exact ⟨0,by omega,rfl,(fun j _ hj=>by omega),rfl⟩
 case round=>
  obtain⟨k,hk,rfl,hno,rfl⟩:=hrel
  by_cases hlt:k< s.tens.length
  ·obtain⟨b,o,rfl,hcs⟩:=LRow.range HR.out hlt
   have HRG:=Lib.hid (hcs w1 (Below.refl _ _))
   have HAT1:=Lib.hid (HAT.out k hlt hno.out)
   clear hcs
   generalize hx:s.tens[k]=x at HRG HAT1
   have HX:=Lib.hid hx
   clear hx
   obtain⟨i,rt,bu,bk,gn⟩:=x
   obtain⟨y0,y1,y2,y3,y4⟩:=cellsTenO HRG.out
   replace y0:w1.cell? ⟨b,o+k* 5,none⟩=some (.int .i64 i):=y0
   replace y1:w1.cell? ⟨b,o+k* 5+1,none⟩=some (.int .i64 rt):=y1
   replace y2:w1.cell? ⟨b,o+k* 5+2,none⟩=some (.int .i64 bu):=y2
   replace y3:w1.cell? ⟨b,o+k* 5+3,none⟩=some (.int .i64 bk):=y3
   clear y4
   by_cases he:i= id
   ·have hb:(i==id)=true:= by simpa using he
    have HQ:=Lib.hid (HAT1.out he)
    clear he
    go_wp2
    go_quiet (fail)
    go_wp2
    go_returns
    exact⟨by rw[HQ.out];rfl,below_drewN HB.out _⟩
   ·have hb:(i==id)=false:= by simpa using he
    have HNX:Hid (∀j (h:j< s.tens.length),j<k+ 1→s.tens[j].id≠id):=Lib.hid (fun j h hj=>by
     by_cases e:j= k
     ·subst e;rw[HX.out];exact he
     ·exact hno.out j h (by omega))
    clear he
    go_wp2
    exact⟨⟨k+1,by omega,by go_num,HNX,(by first|rfl| trivial)⟩,by simp[intOf];omega⟩
  ·obtain rfl:k= s.tens.length:=by omega
   have HQ:=Lib.hid (HNO.out (fun j h=>hno.out j h h))
   go_wp2
   go_returns
   exact⟨by rw[HQ.out];rfl,HB.out⟩
end Go.Proofs.YtfdmhpohfjbpfaaGreat
