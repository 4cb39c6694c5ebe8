import Derived.Deep.DeepAppendRoom
import Derived.Deep.Cut
import Derived.WalkSmall
import Derived.Test.YtfdmhpohfjbpfaaGreatSqWirThings
set_option linter.unusedVariables false
set_option linter.unusedSimpArgs false
namespace Go.Proofs.YtfdmhpohfjbpfaaGreat
open Go.ChangeShapes Go.WideShapes Go.ChangeAt Go.RowKit
set_option maxRecDepth 100000
theorem el_bytes:Elem Tryz.prog 43 5 1 1 where
 under:=Tryz.underlying43
 info:=by
  have h:(Tryz.prog.info? 5).map (fun i=>(i.zero,i.size,i.bytes))=some (some (.int .u8 0),1,1):=by kernel_rfl
  obtain⟨i,hi,h0,h1,h2⟩:=info_parts h
  exact⟨i,_,hi,h0,h1,h2,rfl⟩
 pos:=by decide
 bpos:=by decide
theorem can_near {P:Program} {w:World} {t e:TypeId} {size bytes:Nat} (el:Elem P t e size bytes) (ty:TypeId) (D:Nat) (a:Option Addr) (n c:Nat) (xs:List Value) (hcan:Can w D e size a n c xs)
 (ad:Option Addr) (m k:Nat) (news:List Value) (hl:news.length= m*size) (hr:Row w ad news) (h1:∀u∈ news,u.oneCell'=true) (hbytes:(n+m)*bytes≤ 140737488355328) (hm:0< m)
 {a':Option Addr} {c':Nat} {w':World} (hrun:(Builtin.append_ #[t,t] ty #[.slice a n c,.slice ad m k]).run P w= .ok (.slice a' (n+m) c') w'):Near w.heap.size a a':=by
 obtain⟨i,z,hi,hz,hsize,hby,hzs⟩:=el.info
 have hp:=el.pos
 have hb:=el.bpos
 subst hsize
 subst hby
 have h63:n+ m≤9223372036854775807:= by
  have:n+ m≤(n+m)*i.bytes:= Nat.le_mul_of_pos_right _ hb
  omega
 obtain⟨ad',rfl⟩:∃x,ad=some x:=by
  cases ad with
  |some x=>exact ⟨x,rfl⟩
  |none=>
   rcases hr with rfl|⟨_,_,h,_⟩
   ·rw[List.length_nil]at hl
    have:=Nat.mul_pos hm hp
    omega
   ·cases h
 have hnews:=hr.holds
 cases a with
 |none=>
  have hc0:c= 0:=hcan.none hp rfl
  have hn0:n= 0:=by have:=hcan.le;omega
  subst hc0
  subst hn0
  have h2:=Go.run_append_nil (P:=P) w t ty e i z el.under hi hz ad' m k news hl hnews hm (by omega) (by have h3:=hbytes;rw[Nat.zero_add]at h3;omega)
  rw[h2]at hrun
  simp only[Result.ok.injEq,Value.slice.injEq]at hrun
  intro b o s hs
  rw[←hrun.1.1]at hs
  simp only[Option.some.injEq,Addr.mk.injEq]at hs
  left;omega
 |some x=>
  by_cases hroom:n+ m≤c
  ·rcases hcan.2.2 with⟨h3,_⟩|hown
   ·omega
   ·rcases hown.2 with⟨h0,_⟩|⟨g',cap',cur,hv,_⟩
    ·cases h0
    ·simp only[Value.slice.injEq]at hv
     obtain⟨hx,-,-⟩:=hv
     simp only[Option.some.injEq]at hx
     subst hx
     obtain⟨w2,h2,-,-⟩:=run_append_own_spare (P:=P) w D t ty e i i.size el.under hi rfl g' n c xs hown ad' m k news hl hnews h1 hroom
     rw[h2]at hrun
     simp only[Result.ok.injEq,Value.slice.injEq]at hrun
     rw[←hrun.1.1]
     exact Near.self _ _
  ·have h2:=run_append_grow (P:=P) w t ty e i z el.under hi hz x n c xs hcan.1 hcan.row.holds ad' m k news hl hnews (by omega) (by omega) (growslice_fits (by omega) hbytes)
   rw[h2]at hrun
   simp only[Result.ok.injEq,Value.slice.injEq]at hrun
   intro b o s hs
   rw[←hrun.1.1]at hs
   simp only[Option.some.injEq,Addr.mk.injEq]at hs
   left;omega
theorem setCell_id {w:World} {b o:Nat} {v:Value} (h:w.cell? ⟨b,o,none⟩=some v):w.setCell ⟨b,o,none⟩ v=w:= by
 have hh:(w.setCell ⟨b,o,none⟩ v).heap=w.heap:= by
  refine Array.ext_getElem? fun k=> ?_
  unfold World.setCell
  simp only[Array.getElem?_modify]
  by_cases hk:b= k
  ·subst hk
   rw[if_pos rfl]
   cases hb:w.heap[b]? with
   |none=> rfl
   |some ob=>
    unfold World.cell? at h
    rw[hb]at h
    cases ob with
    |cells c e fr=>
     simp at h
     obtain⟨h1,h2⟩:=Array.getElem?_eq_some_iff.1 h
     simp only[Option.map_some,Option.isSome_none,Bool.false_eq_true,if_false]
     congr 2
     refine Array.ext_getElem? fun j=> ?_
     rw[Array.getElem?_setIfInBounds]
     split
     ·rename_i hj;subst hj;exact h.symm
     ·rfl
    |_=> simp at h
  ·rw[if_neg hk]
 cases w
 simp only[World.setCell]at hh ⊢
 rw[hh]
structure Cw (w:World) (D g:Nat) (a:Option Addr) (c:Nat) (bs:List UInt8):Prop where
 box:Box w g [.slice a bs.length c,.int .i64 0,.bool false]
 can:Can w D 5 1 a bs.length c (bs.map B)
 far:∀b o s,a=some ⟨b,o,s⟩→D≤ b
 low:g< D
 lt:∀b o s,a=some ⟨b,o,s⟩→b< w.heap.size
theorem own_lt {w:World} {D:Nat} {e:TypeId} {size n c:Nat} {a:Option Addr} {xs:List Value} (h:w.ownsRow D e size (.slice a n c) n xs):∀b o s,a=some ⟨b,o,s⟩→b< w.heap.size:=fun b o s ha=>by
 rcases h.2 with⟨h0,_⟩|⟨g',cap',cur,hv,_,hg,_⟩
 ·simp only[Value.slice.injEq]at h0
  rw[ha]at h0
  cases h0.1
 ·simp only[Value.slice.injEq]at hv
  rw[ha]at hv
  have h1:=hv.1
  simp only[Option.some.injEq,Addr.mk.injEq]at h1
  rw[h1.1]
  exact(Array.getElem?_eq_some_iff.1 hg).1
theorem Cw.below {w w':World} {D g c:Nat} {a:Option Addr} {bs:List UInt8} (h:Cw w D g a c bs) (hb:Below w.heap.size w w'):Cw w' D g a c bs:=
 ⟨h.box.next (by simp) hb,can_mid h.can (Mid.below hb (Nat.le_refl _):Mid D w.heap.size w w') (fun b o s e=> .inl (h.far b o s e)) (Nat.le_refl _) (Nat.le_refl _),h.far,h.low,fun b o s e=>Nat.lt_of_lt_of_le (h.lt b o s e) hb.size⟩
theorem Cw.new {w:World} {D g c:Nat} {a:Option Addr} {bs:List UInt8} (h:Cw w D g a c bs):w.heap.size≠ g∧∀o s,a≠some ⟨w.heap.size,o,s⟩:=by
 have:=h.box.lt (by simp)
 exact⟨by omega,fun o s e=>by have:=h.lt _ o s e;omega⟩
structure Grew (g:Nat) (a a':Option Addr) (w w':World):Prop where
 os:w'.os= w.os
 tape:w'.tape= w.tape
 output:w'.output= w.output
 size:w.heap.size≤ w'.heap.size
 keep:∀k,k<w.heap.size→ k≠g→ (∀o s,a≠some ⟨k,o,s⟩)→w'.heap[k]? =w.heap[k]?
 near:Near w.heap.size a a'
theorem Grew.refl (g:Nat) (a:Option Addr) (w:World):Grew g a a w w:=⟨rfl,rfl,rfl,Nat.le_refl _,fun _ _ _ _=>rfl,Near.self _ _⟩
theorem Grew.trans {g:Nat} {a a' a'':Option Addr} {w w' w'':World} (h:Grew g a a' w w') (h2:Grew g a' a'' w' w''):Grew g a a'' w w'':=
 ⟨h2.os.trans h.os,h2.tape.trans h.tape,h2.output.trans h.output,Nat.le_trans h.size h2.size,fun k hk hg ha=>by
  rw[h2.keep k (Nat.lt_of_lt_of_le hk h.size) hg (fun o s e=>by
   rcases h.near k o s e with h1|⟨o',s',h1⟩
   ·omega
   ·exact ha o' s' h1)]
  exact h.keep k hk hg ha,fun b o s e=>by
  rcases h2.near b o s e with h1|⟨o',s',h1⟩
  ·exact .inl (Nat.le_trans h.size h1)
  ·exact h.near b o' s' h1⟩
theorem Box.grew {w w':World} {g x:Nat} {a a':Option Addr} {cs:List Value} (h:Box w x cs) (h0:0< cs.length) (hg:Grew g a a' w w') (hne:x≠ g) (ha:∀o s,a≠some ⟨x,o,s⟩):Box w' x cs:=h.block (hg.keep x (h.lt h0) hne ha)
theorem Grew.off {w w':World} {g x:Nat} {a a':Option Addr} (hg:Grew g a a' w w') (hx:x< w.heap.size) (ha:∀o s,a≠some ⟨x,o,s⟩):∀o s,a'≠some ⟨x,o,s⟩:=fun o s e=>by
 rcases hg.near x o s e with h1|⟨o',s',h1⟩
 ·omega
 ·exact ha o' s' h1
theorem step_near {P:Program} {w:World} {ops:Array Oper} {o:Oper} {ac:Act} {K:Act→ World→Prop} {Q:Exit→ Act→World→ Prop} {E:Prop} {t e:TypeId} {size bytes:Nat} (el:Elem P t e size bytes) (hgd:o.guard= none) (s x:Operand)
 (ho:o.op= .call {callee:= .builtin .append,args:= #[s,x],argTypes:= #[t,t]})
 (D:Nat) (a:Option Addr) (n c:Nat) (xs:List Value) (hs:ac.eval s= .slice a n c) (hcan:Can w D e size a n c xs)
 (ad:Option Addr) (m k:Nat) (news:List Value) (hx:ac.eval x= .slice ad m k) (hl:news.length= m*size) (hr:Row w ad news) (h1:∀u∈ news,u.oneCell'=true)
 (hbytes:(n+m)*bytes≤ 140737488355328) (hD:D≤ w.heap.size) (hm:0< m)
 (h:∀a' c' w',Can w' D e size a' (n+m) c' (xs++news)→w.grownBy w' (Value.slice a n c).ownBlock→Near w.heap.size a a'→w'.ownsRow D e size (.slice a' (n+m) c') (n+m) (xs++news)→K (ac.put o.dst (.slice a' (n+m) c')) w'):
 if Region.wanted o (yielded ops ac.tmps)=true then Oper.wp P o ac w K Q else E:=by
 have hw:Region.wanted o (yielded ops ac.tmps)=true:= by simp[Region.wanted,hgd]
 rw[if_pos hw]
 obtain⟨a',c',w',hrun,h2,h3,h4,h5⟩:=run_can el o.type D a n c xs hcan ad m k news hl hr h1 hbytes hD
 have hn:=can_near el o.type D a n c xs hcan ad m k news hl hr h1 hbytes hm hrun
 unfold Oper.wp execOp
 simp only[ho,resolve,invoke,builtin,Sem.run_bind,Sem.run_pure,Result.andThen_ok,List.map_toArray,List.map_cons,List.map_nil,hs,hx,hrun]
 exact h a' c' w' h2 h3 hn (h5.1 hm)
theorem Cw.step {w W0 w':World} {D g:Nat} {a a':Option Addr} {c c':Nat} {bs ns:List UInt8} (h:Cw w D g a c bs) (hb:Below w.heap.size w W0) (hD:D≤ w.heap.size)
 (hcan:Can w' D 5 1 a' (bs.length+ns.length) c' (bs.map B++ns.map B)) (hg:W0.grownBy w' (Value.slice a bs.length c).ownBlock) (hn:Near W0.heap.size a a') (hown:∀b o s,a'=some ⟨b,o,s⟩→D≤ b) (hlt:∀b o s,a'=some ⟨b,o,s⟩→b< w'.heap.size):
 Box w' g [.slice a bs.length c,.int .i64 0,.bool false]∧Cw (w'.setCell ⟨g,0,none⟩ (.slice a' (bs.length+ns.length) c')) D g a' c' (bs++ns)∧Grew g a a' w (w'.setCell ⟨g,0,none⟩ (.slice a' (bs.length+ns.length) c')):=by
 have hga:∀o s,a≠some ⟨g,o,s⟩:=fun o s e=>by have:=h.far g o s e;have:=h.low;omega
 have hgl:=h.box.lt (by simp)
 have ow:∀k,(∀o s,a≠some ⟨k,o,s⟩)→some k≠(Value.slice a bs.length c).ownBlock:=fun k hk e=>by
  cases a with
  |none=> simp[Value.ownBlock]at e
  |some ad=>
   obtain⟨y,u,v⟩:=ad
   simp[Value.ownBlock]at e
   subst e
   exact hk u v rfl
 have hbx0:=h.box.next (by simp) hb
 have hbx:Box w' g [.slice a bs.length c,.int .i64 0,.bool false]:=hbx0.block (hg.block g (Nat.lt_of_lt_of_le hgl hb.size) (ow g hga))
 have hbs:=hbx.set (i:=0) (show 0<3 by decide) (.slice a' (bs.length+ns.length) c')
 have hga':∀o s,a'≠some ⟨g,o,s⟩:=fun o s e=>by have:=hown g o s e;have:=h.low;omega
 refine⟨hbx,⟨by rw[List.length_append];exact hbs,?_,hown,h.low,fun b o s e=>by simpa using hlt b o s e⟩,⟨?_,?_,?_,?_,?_,hn.mono hb.size⟩⟩
 ·rw[List.length_append,List.map_append]
  exact can_mid hcan ((Mid.refl D w'.heap.size w').setCell ⟨g,0,none⟩ _ (.inl h.low)) (fun b o s e=> .inl (hown b o s e)) (Nat.le_refl _) (Nat.le_refl _)
 ·exact(hg.os.trans hb.os)
 ·exact(hg.tape.trans hb.tape)
 ·exact(hg.output.trans hb.output)
 ·have:=hg.size;have:=hb.size;simp;omega
 ·intro k hk hkg hka
  rw[Below.heap_setCell _ _ _ _ (fun e=>hkg e),hg.block k (Nat.lt_of_lt_of_le hk hb.size) (ow k hka),hb.block k hk]
structure Keep (S:Nat→ Prop) (w w':World):Prop where
 os:w'.os= w.os
 tape:w'.tape= w.tape
 output:w'.output= w.output
 size:w.heap.size≤ w'.heap.size
 block:∀k,k<w.heap.size→ ¬S k→w'.heap[k]? =w.heap[k]?
theorem Keep.refl (S:Nat→ Prop) (w:World):Keep S w w:=⟨rfl,rfl,rfl,Nat.le_refl _,fun _ _ _=>rfl⟩
theorem Keep.trans {S:Nat→ Prop} {w w' w'':World} (h:Keep S w w') (h2:Keep S w' w''):Keep S w w'':=
 ⟨h2.os.trans h.os,h2.tape.trans h.tape,h2.output.trans h.output,Nat.le_trans h.size h2.size,fun k hk hn=>(h2.block k (Nat.lt_of_lt_of_le hk h.size) hn).trans (h.block k hk hn)⟩
theorem Keep.mono {S S':Nat→ Prop} {w w':World} (h:Keep S w w') (hs:∀k,k<w.heap.size→ S k→S' k):Keep S' w w':=⟨h.os,h.tape,h.output,h.size,fun k hk hn=>h.block k hk (fun e=>hn (hs k hk e))⟩
theorem Keep.of {S:Nat→ Prop} {w w':World} (h:Below w.heap.size w w'):Keep S w w':=⟨h.os,h.tape,h.output,h.size,fun k hk _=>h.block k hk⟩
theorem Keep.bel {S:Nat→ Prop} {w w':World} {b:Nat} (h:Keep S w w') (hb:b≤ w.heap.size) (hs:∀k,S k→b≤ k):Below b w w':=⟨h.os,h.tape,h.output,h.size,fun k hk=>h.block k (by omega) (fun e=>by have:=hs k e;omega)⟩
theorem Keep.set {S:Nat→ Prop} {w w':World} (h:Keep S w w') (p:Addr) (v:Value) (hp:S p.block):Keep S w (w'.setCell p v):=
 h.trans ⟨rfl,rfl,rfl,by simp,fun k _ hn=>Below.heap_setCell _ _ _ _ (fun e=>hn (e▸hp))⟩
theorem Box.keep {S:Nat→ Prop} {w w':World} {g:Nat} {cs:List Value} (h:Box w g cs) (h0:0< cs.length) (hk:Keep S w w') (hn:¬S g):Box w' g cs:=h.block (hk.block g (h.lt h0) hn)
theorem Row.keep {S:Nat→ Prop} {w w':World} {a:Option Addr} {xs:List Value} (h:Row w a xs) (hk:Keep S w w') (hn:∀b o s,a=some ⟨b,o,s⟩→¬S b):Row w' a xs:=by
 by_cases h0:xs= []
 ·exact .inl h0
 ·rcases h with h|⟨b,o,rfl,hc⟩
  ·exact absurd h h0
  ·have hlt:=Row.lt (.inr ⟨b,o,rfl,hc⟩) h0
   exact .inr ⟨b,o,rfl,fun i hi=>by rw[World.cell?_of_block (w:=w) (hk.block b hlt (hn b o none rfl))];exact hc i hi⟩
def rowA (a:Option Addr) (bs:List UInt8):Option Addr:=if bs=[]then none else a
theorem rowA_some {a:Option Addr} {bs:List UInt8} {p:Addr} (h:a= some p) (h0:bs≠ []):rowA a bs=some p:=by unfold rowA;rw[if_neg h0];exact h
theorem RowB.keepA {S:Nat→ Prop} {w w':World} {a:Option Addr} {bs:List UInt8} (h:RowB w a bs) (hk:Keep S w w') (hn:∀b o s,rowA a bs=some ⟨b,o,s⟩→¬S b):RowB w' a bs:=by
 by_cases h0:bs= []
 ·exact .inl (by rw[h0];rfl)
 ·exact Row.keep h hk (fun b o s e=>hn b o s (rowA_some e h0))
structure Cr (w:World) (g:Nat) (a:Option Addr) (c:Nat) (bs:List UInt8) (p:Nat):Prop where
 box:Box w g [.slice a bs.length c,.int .i64 p,.bool true]
 row:RowB w a bs
 le:p≤ bs.length
 cap:bs.length≤ c
 low:∀b o s,rowA a bs=some ⟨b,o,s⟩→b< g
structure Off (g:Nat) (a:Option Addr) (k:Nat):Prop where
 ne:k≠ g
 far:∀o s,a≠some ⟨k,o,s⟩
theorem Cr.keep {S:Nat→ Prop} {w w':World} {g:Nat} {a:Option Addr} {c:Nat} {bs:List UInt8} {p:Nat} (h:Cr w g a c bs p) (hk:Keep S w w') (hs:∀k,S k→Off g (rowA a bs) k):Cr w' g a c bs p:=
 ⟨h.box.keep (by simp) hk (fun e=>(hs g e).ne rfl),RowB.keepA h.row hk (fun b o s e e2=>(hs b e2).far o s e),h.le,h.cap,h.low⟩
theorem Cr.new {w:World} {g:Nat} {a:Option Addr} {c:Nat} {bs:List UInt8} {p:Nat} (h:Cr w g a c bs p) {k:Nat} (hk:w.heap.size≤ k):Off g (rowA a bs) k:=by
 have h1:=h.box.lt (by simp)
 exact⟨by omega,fun o s e=>by have:=h.low k o s e;omega⟩
theorem Cr.below {w w':World} {g:Nat} {a:Option Addr} {c:Nat} {bs:List UInt8} {p:Nat} (h:Cr w g a c bs p) (hb:Below w.heap.size w w'):Cr w' g a c bs p:=h.keep (S:=fun k=>w.heap.size≤ k) (.of hb) (fun k hk=>h.new hk)
theorem Cr.move {w:World} {g:Nat} {a:Option Addr} {c:Nat} {bs:List UInt8} {p:Nat} (h:Cr w g a c bs p) {q:Nat} (hq:q≤ bs.length):Cr (w.setCell ⟨g,1,none⟩ (.int .i64 q)) g a c bs q:=
 ⟨h.box.set (i:=1) (by simp) _,RowB.keepA h.row ((Keep.refl (fun k=>k= g) w).set _ _ rfl) (fun b o s e e2=>by have:=h.low b o s e;omega),hq,h.cap,h.low⟩
abbrev badV (f:Nat):Ending:= .panicked [{v:= .iface 143 (.agg #[.int .i64 f]),recovered:=false}]
def RetRd {α:Type} (w:World) (g:Nat) (a:Option Addr) (c:Nat) (bs:List UInt8) (S:Nat→ Prop) (r:Got α) (OK:α→ World→Prop) (BAD:World→ Prop) (e:Ending) (w':World):Prop:=
 Keep S w w'∧((∃x q,r= .ok (x,q)∧e= .returned (.tuple #[])∧Cr w' g a c bs q∧OK x w')∨(∃f,r= .error f∧e= badV f∧BAD w'))
def RetNeed (w:World) (g:Nat) (a:Option Addr) (c:Nat) (bs:List UInt8) (k q:Nat) (l:List UInt8) (e:Ending) (w':World):Prop:= ∃a',e= .returned (.slice a' k k)∧RowB w' a' l∧Cr w' g a c bs q∧Keep (fun b=>b= g) w w'
set_option maxHeartbeats 1000000 in
theorem need_bad (g c p k:Nat) (a:Option Addr) (bs:List UInt8) (w:World) (h:Cr w g a c bs p) (hl:bs.length≤ 2000000) (hs:bs.length- p<k):
 Calls Tryz.prog 155 #[.pointer (some ⟨g,0,none⟩),.int .i64 k] w (fun e w'=>e= badV bs.length∧Below w.heap.size w w'):=by
 have k0:=h.box.cell (j:=0) rfl
 have k1:=h.box.cell (j:=1) rfl
 have hle:=h.le
 have d1:decide ((bs.length:Int)-p< k)=true:= decide_eq_true (by omega)
 clear h
 go_enter Tryz.func155,Tryz.ntmps155
 go_upto_region 1 with(fail)
 go_quiet (fail)
 go_wp2_with fail
 exact⟨rfl,rfl,below_drewN (Below.refl w.heap.size w) nq⟩
set_option maxHeartbeats 1000000 in
theorem need_some (g c p k b o:Nat) (bs:List UInt8) (w:World) (h:Cr w g (some ⟨b,o,none⟩) c bs p) (hl:bs.length≤ 2000000) (hs:¬bs.length- p<k) (hk:0< k):
 Calls Tryz.prog 155 #[.pointer (some ⟨g,0,none⟩),.int .i64 k] w (RetNeed w g (some ⟨b,o,none⟩) c bs k (p+k) ((bs.drop p).take k)):=by
 have k0:=h.box.cell (j:=0) rfl
 have k1:=h.box.cell (j:=1) rfl
 have z1:=h.box.froz (j:=1) (by simp)
 have hle:=h.le
 have hcap:=h.cap
 have d1:decide ((bs.length:Int)-p< k)=false:= decide_eq_false (by omega)
 have HC:=Lib.hid h
 clear h
 go_enter Tryz.func155,Tryz.ntmps155
 go_upto_region 1 with(fail)
 go_quiet (fail)
 go_upto_region 3 with(fail)
 go_quiet (fail)
 go_wp2_with fail
 rename_i nq0
 have hb2:Below w.heap.size w (w.drewN (nq0+nq)):=below_drewN (Below.refl w.heap.size w) _
 have hgl:g< w.heap.size:=World.block_lt_of_cell? w _ k0
 rw[show p+k- p=k by omega]
 go_ret
 refine⟨some ⟨b,o+p,none⟩,rfl,?_,(HC.out.below hb2).move (by omega),(Keep.of hb2).set _ _ rfl⟩
 have h1:=(Row.drop HC.out.row p).take k
 rw[←List.map_drop,←List.map_take]at h1
 exact(h1.below hb2).keep ((Keep.refl (fun k=>k= g) _).set _ _ rfl) (fun x y s e e2=>by simp only[Option.some.injEq,Addr.mk.injEq]at e;have:=HC.out.low b o none (rowA_some rfl (by intro h0;rw[h0]at hs;simp at hs;omega));omega)
set_option maxHeartbeats 1000000 in
theorem need_none (g c p:Nat) (ad:Addr) (bs:List UInt8) (w:World) (h:Cr w g (some ad) c bs p) (hl:bs.length≤ 2000000):
 Calls Tryz.prog 155 #[.pointer (some ⟨g,0,none⟩),.int .i64 (0:Nat)] w (RetNeed w g (some ad) c bs 0 p []):=by
 have k0:=h.box.cell (j:=0) rfl
 have k1:=h.box.cell (j:=1) rfl
 have z1:=h.box.froz (j:=1) (by simp)
 have hle:=h.le
 have hcap:=h.cap
 have d1:decide ((bs.length:Int)-p< 0)=false:= decide_eq_false (by omega)
 have HC:=Lib.hid h
 clear h
 go_enter Tryz.func155,Tryz.ntmps155
 go_upto_region 1 with(fail)
 go_quiet (fail)
 go_upto_region 3 with(fail)
 go_quiet (fail)
 go_wp2_with fail
 rename_i nq0
 have hb2:Below w.heap.size w (w.drewN (nq0+nq)):=below_drewN (Below.refl w.heap.size w) _
 have hgl:g< w.heap.size:=World.block_lt_of_cell? w _ k0
 go_ret
 exact⟨_,rfl,.inl rfl,(HC.out.below hb2).move (by omega),(Keep.of hb2).set _ _ rfl⟩
set_option maxHeartbeats 1000000 in
theorem need_nil (g c:Nat) (w:World) (h:Cr w g none c [] 0):
 Calls Tryz.prog 155 #[.pointer (some ⟨g,0,none⟩),.int .i64 (0:Nat)] w (RetNeed w g none c [] 0 0 []):=by
 have k0:=h.box.cell (j:=0) rfl
 have k1:=h.box.cell (j:=1) rfl
 have z1:=h.box.froz (j:=1) (by simp)
 have HC:=Lib.hid h
 clear h
 go_enter Tryz.func155,Tryz.ntmps155
 go_upto_region 1 with(fail)
 go_quiet (fail)
 go_upto_region 3 with(fail)
 go_quiet (fail)
 go_wp2_with fail
 rename_i nq0
 have hb2:Below w.heap.size w (w.drewN (nq0+nq)):=below_drewN (Below.refl w.heap.size w) _
 have hgl:g< w.heap.size:=World.block_lt_of_cell? w _ k0
 go_ret
 exact⟨_,rfl,.inl rfl,(HC.out.below hb2).move (by simp),(Keep.of hb2).set _ _ rfl⟩
theorem need_ok (g c p k:Nat) (a:Option Addr) (bs:List UInt8) (w:World) (h:Cr w g a c bs p) (hl:bs.length≤ 2000000) (hs:¬bs.length- p<k):
 Calls Tryz.prog 155 #[.pointer (some ⟨g,0,none⟩),.int .i64 k] w (RetNeed w g a c bs k (p+k) ((bs.drop p).take k)):=by
 rcases h.row with h0|⟨b,o,rfl,_⟩
 ·have h1:bs= []:=by simpa using h0
  subst h1
  have h2:=h.le
  obtain rfl:p= 0:=by simpa using h2
  obtain rfl:k= 0:=by simpa using hs
  cases a with
  |none=> exact need_nil g c w h
  |some ad=>
   have h3:=need_none g c 0 ad [] w h (by simp)
   simpa using h3
 ·by_cases hk:k= 0
  ·subst hk
   rw[List.take_zero]
   exact need_none g c p _ bs w h hl
  ·exact need_some g c p k b o bs w h hl hs (by omega)
theorem beVal_take1 {l:List UInt8} {k:Nat} (h:k< l.length):beVal (l.take (k+1))=beVal (l.take k)*256+ l[k].toNat:=by
 rw[List.take_succ_eq_append_getElem h,beVal_snoc]
theorem or_step64 {v:Nat} (x:UInt8) (h:v< 72057594037927936):bits .or .u64 ((v:Int)*256) (IntKind.u64.wrap (x.toNat:Int))=((v*256+ x.toNat:Nat):Int):=by
 have hx:=x.toNat_lt
 have e3:IntKind.u64.wrap (x.toNat:Int)=x.toNat:= by rw[IntKind.wrap_u64];omega
 rw[e3]
 have e:=u64_or_nat (v*256) x.toNat (by omega) (by omega)
 have e2:v* 256 ||| x.toNat=v* 256+x.toNat:= by
  have:=Nat.shiftLeft_add_eq_or_of_lt (i:=8) (b:=x.toNat) (by omega) v
  rw[Nat.shiftLeft_eq]at this
  simpa using this.symm
 rw[e2]at e
 rw[←e];norm_cast
def RetNum (w:World) (g gx ox:Nat) (a:Option Addr) (c:Nat) (bs:List UInt8) (p:Nat) (cs:List Value):Ending→ World→Prop:= RetRd w g a c bs (fun k=>k= g∨k= gx) (numP bs p) (fun v w'=>Box w' gx (cs.set ox (.int .i64 v))) (fun w'=>Box w' gx cs)
set_option maxHeartbeats 1000000 in
theorem number_bad (g c p gx ox:Nat) (a:Option Addr) (bs:List UInt8) (cs:List Value) (w:World) (h:Cr w g a c bs p) (hl:bs.length≤ 2000000) (hx:Box w gx cs) (hgx:Off g (rowA a bs) gx) (hox:ox< cs.length) (hs:bs.length- p<8):
 Calls Tryz.prog 109 #[.pointer (some ⟨g,0,none⟩),.pointer (some ⟨gx,ox,none⟩)] w (RetNum w g gx ox a c bs p cs):=by
 have k2:=h.box.cell (j:=2) rfl
 have HC:=Lib.hid h
 have HX:=Lib.hid hx
 have HNB:Hid (Calls Tryz.prog 155 #[.pointer (some ⟨g,0,none⟩),.int .i64 8] w (fun e w'=>e= badV bs.length∧Below w.heap.size w w')):=need_bad g c p 8 a bs w h hl hs
 clear h hx
 go_enter Tryz.func109,Tryz.ntmps109
 go_wp2_with(go_at_call 155;((with_reducible refine HNB.out.mono ?_);rintro e w1 ⟨rfl,hb⟩;have HB:=Lib.hid hb;clear hb))
 have hn:numP bs p= .error bs.length:=by unfold numP needP;rw[if_pos hs];rfl
 exact⟨rfl,.of HB.out,.inr ⟨_,hn,rfl,HX.out.next (by omega) HB.out⟩⟩
set_option maxHeartbeats 1000000 in
theorem number_ok (g c p gx ox:Nat) (a:Option Addr) (bs:List UInt8) (cs:List Value) (w:World) (h:Cr w g a c bs p) (hl:bs.length≤ 2000000) (hx:Box w gx cs) (hgx:Off g (rowA a bs) gx) (hox:ox< cs.length) (hs:¬bs.length- p<8):
 Calls Tryz.prog 109 #[.pointer (some ⟨g,0,none⟩),.pointer (some ⟨gx,ox,none⟩)] w (RetNum w g gx ox a c bs p cs):=by
 have k2:=h.box.cell (j:=2) rfl
 have HC:=Lib.hid h
 have HX:=Lib.hid hx
 have HNEED:Hid (Calls Tryz.prog 155 #[.pointer (some ⟨g,0,none⟩),.int .i64 8] w (RetNeed w g a c bs 8 (p+8) ((bs.drop p).take 8))):=need_ok g c p 8 a bs w h hl hs
 clear h hx
 generalize hL:(bs.drop p).take 8=l at HNEED
 have hl8:l.length= 8:=by rw[←hL,List.length_take,List.length_drop];omega
 have HL:=Lib.hid hL
 clear hL
 go_enter Tryz.func109,Tryz.ntmps109
 go_wp2_with(go_at_call 155;((with_reducible refine HNEED.out.mono ?_);rintro e w1 ⟨a1,rfl,hr1,hc1,hk1⟩;have HR1:=Lib.hid hr1;have HC1:=Lib.hid hc1;have HK1:=Lib.hid hk1;clear hr1 hc1 hk1))
 have hgl:=HC.out.box.lt (by simp)
 have HX1:=Lib.hid (HX.out.keep (by omega) HK1.out hgx.ne)
 have x1:=HX1.out.cell (List.getElem?_eq_getElem hox)
 have y1:=HX1.out.froz hox
 obtain⟨b,o,rfl,hcell⟩:=RowB.at HR1.out (k:=0) (by omega)
 have HCELL:=Lib.hid hcell
 have hbs:=beVal_lt l
 rw[hl8]at hbs
 clear hcell
 go_loop [4,6,15] (fun v _ i=>∃k: Nat,k≤8∧ i= .int .i64 k∧v= .int .u64 (beVal (l.take k):Nat)) (fun _ _ i=>8- (intOf i).toNat)
 case atStart=>exact ⟨0,by omega,rfl,rfl⟩
 case round=>
  obtain⟨k,hk,rfl,rfl⟩:=hrel
  by_cases hlt:k< 8
  ·have hcell:=HCELL.out k (by omega)
   have hlt2:beVal (l.take k)<72057594037927936:= by
    refine Nat.lt_of_lt_of_le (beVal_lt (l.take k)) ?_
    rw[List.length_take,Nat.min_eq_left (by omega)]
    have:256^ k≤256^ 7:=Nat.pow_le_pow_right (by decide) (by omega)
    omega
   have HS:=Lib.hid (beVal_take1 (l:=l) (k:=k) (by omega))
   have HO:=Lib.hid (or_step64 (l[k]'(by omega)) hlt2)
   generalize l[k]'(by omega)=x at hcell HS HO
   generalize beVal (l.take k)=v at hlt2 HS HO ⊢
   go_wp2
   exact⟨⟨k+1,by omega,by go_num,by rw[HO.out,HS.out]⟩,by simp[intOf];omega⟩
  ·obtain rfl:k= 8:=by omega
   rw[List.take_of_length_le (by omega)]
   have HV:Hid (wrap64 (beVal l:Int)=num8 l):=by
    show _=_
    unfold num8 i64 wrap64
    split<;>omega
   generalize beVal l=v at HV hbs ⊢
   go_wp2
   rw[HV.out]
   go_end0
   have hn:numP bs p= .ok (num8 l,p+8):=by unfold numP needP;rw[if_neg hs,HL.out];rfl
   exact⟨(HK1.out.mono (fun k _ e=> .inl e)).set _ _ (.inr rfl),.inl ⟨_,_,hn,rfl,HC1.out.keep ((Keep.refl (fun k=>k= gx) _).set _ _ rfl) (fun k e=>by subst e;exact hgx),HX1.out.set hox _⟩⟩
theorem number_r (g c p gx ox:Nat) (a:Option Addr) (bs:List UInt8) (cs:List Value) (w:World) (h:Cr w g a c bs p) (hl:bs.length≤ 2000000) (hx:Box w gx cs) (hgx:Off g (rowA a bs) gx) (hox:ox< cs.length):
 Calls Tryz.prog 109 #[.pointer (some ⟨g,0,none⟩),.pointer (some ⟨gx,ox,none⟩)] w (RetNum w g gx ox a c bs p cs):=by
 by_cases hs:bs.length- p<8
 ·exact number_bad g c p gx ox a bs cs w h hl hx hgx hox hs
 ·exact number_ok g c p gx ox a bs cs w h hl hx hgx hox hs
abbrev Turn (g gx:Nat) (w w':World):Prop:= Keep (fun k=>k= g∨k= gx∨w.heap.size≤ k) w w'
theorem Keep.turn {S:Nat→ Prop} {g gx:Nat} {w w':World} (h:Keep S w w') (hs:∀k,S k→k= g∨k= gx):Turn g gx w w':=h.mono fun k _ e=>by rcases hs k e with e|e;exact .inl e;exact .inr (.inl e)
theorem Turn.refl (g gx:Nat) (w:World):Turn g gx w w:=Keep.refl _ w
theorem Turn.next {g gx:Nat} {w w' w'':World} (h:Turn g gx w w') (h2:Turn g gx w' w''):Turn g gx w w'':=Keep.trans h (h2.mono fun k _ e=>by rcases e with e|e| e;exact .inl e;exact .inr (.inl e);exact .inr (.inr (Nat.le_trans h.size e)))
theorem Turn.below {g gx:Nat} {w w':World} (h:Below w.heap.size w w'):Turn g gx w w':=(Keep.of (S:=fun k=>w.heap.size≤ k) h).mono fun k hk e=>absurd e (by omega)
def Any (w:World) (g n:Nat):Prop:= ∃cs: List Value,cs.length=n∧ Box w g cs
theorem Any.of {w:World} {g n:Nat} {cs:List Value} (h:Box w g cs) (hn:cs.length= n):Any w g n:=⟨cs,hn,h⟩
theorem Any.keep {S:Nat→ Prop} {w w':World} {g n:Nat} (h:Any w g n) (h0:0< n) (hk:Keep S w w') (hn:¬S g):Any w' g n:=by
 obtain⟨cs,hl,hb⟩:=h
 exact⟨cs,hl,hb.keep (by omega) hk hn⟩
def RetTw {α:Type} (w:World) (g gx n:Nat) (a:Option Addr) (c:Nat) (bs:List UInt8) (r:Got α) (OK:α→ World→Prop) (e:Ending) (w':World):Prop:=
 Turn g gx w w'∧((∃x q,r= .ok (x,q)∧e= .returned (.tuple #[])∧Cr w' g a c bs q∧OK x w')∨(∃f,r= .error f∧e= badV f∧Any w' gx n))
abbrev RetPut {α:Type} (val:α→ Value) (w:World) (g gx ox:Nat) (a:Option Addr) (c:Nat) (bs:List UInt8) (cs:List Value) (r:Got α):Ending→ World→Prop:= RetTw w g gx cs.length a c bs r (fun v w'=>Box w' gx (cs.set ox (val v)))
theorem number_t (g c p gx ox:Nat) (a:Option Addr) (bs:List UInt8) (cs:List Value) (w:World) (h:Cr w g a c bs p) (hl:bs.length≤ 2000000) (hx:Box w gx cs) (hgx:Off g (rowA a bs) gx) (hox:ox< cs.length):
 Calls Tryz.prog 109 #[.pointer (some ⟨g,0,none⟩),.pointer (some ⟨gx,ox,none⟩)] w (RetPut (.int .i64) w g gx ox a c bs cs (numP bs p)):=
 (number_r g c p gx ox a bs cs w h hl hx hgx hox).mono fun e w' h=>by
  obtain⟨hk,h⟩:=h
  refine⟨hk.turn fun k e=>e,?_⟩
  rcases h with h|⟨f,h1,h2,h3⟩
  ·exact .inl h
  ·exact .inr ⟨f,h1,h2,.of h3 rfl⟩
theorem small_no {bs:List UInt8} {p:Nat} (hs:bs.length- p<1):smallP bs p= .error bs.length:=by unfold smallP needP;rw[if_pos hs];rfl
theorem small_yes {bs:List UInt8} {p:Nat} (hs:¬bs.length- p<1):smallP bs p= .ok (((bs.drop p).take 1).headD 0,p+1):=by unfold smallP needP;rw[if_neg hs];rfl
set_option maxHeartbeats 1000000 in
theorem small_t (g c p gx ox:Nat) (a:Option Addr) (bs:List UInt8) (cs:List Value) (w:World) (h:Cr w g a c bs p) (hl:bs.length≤ 2000000) (hx:Box w gx cs) (hgx:Off g (rowA a bs) gx) (hox:ox< cs.length):
 Calls Tryz.prog 154 #[.pointer (some ⟨g,0,none⟩),.pointer (some ⟨gx,ox,none⟩)] w (RetPut B w g gx ox a c bs cs (smallP bs p)):=by
 have k2:=h.box.cell (j:=2) rfl
 have HC:=Lib.hid h
 have HX:=Lib.hid hx
 by_cases hs:bs.length- p<1
 ·have HNB:Hid (Calls Tryz.prog 155 #[.pointer (some ⟨g,0,none⟩),.int .i64 1] w (fun e w'=>e= badV bs.length∧Below w.heap.size w w')):=need_bad g c p 1 a bs w h hl hs
  clear h hx
  go_enter Tryz.func154,Tryz.ntmps154
  go_wp2_with(go_at_call 155;((with_reducible refine HNB.out.mono ?_);rintro e w1 ⟨rfl,hb⟩;have HB:=Lib.hid hb;clear hb))
  exact⟨rfl,Turn.below HB.out,.inr ⟨_,small_no hs,rfl,.of (HX.out.next (by omega) HB.out) rfl⟩⟩
 ·have HNEED:Hid (Calls Tryz.prog 155 #[.pointer (some ⟨g,0,none⟩),.int .i64 1] w (RetNeed w g a c bs 1 (p+1) ((bs.drop p).take 1))):=need_ok g c p 1 a bs w h hl hs
  have HS:=Lib.hid (small_yes hs)
  clear h hx
  have hl1:((bs.drop p).take 1).length=1:= by rw[List.length_take,List.length_drop];omega
  generalize(bs.drop p).take 1=l at HNEED HS hl1
  obtain⟨y,rfl⟩:∃y,l=[y]:=by
   match l,hl1 with
   |[y],_=>exact ⟨y,rfl⟩
  clear hl1
  go_enter Tryz.func154,Tryz.ntmps154
  go_wp2_with(go_at_call 155;((with_reducible refine HNEED.out.mono ?_);rintro e w1 ⟨a1,rfl,hr1,hc1,hk1⟩;have HX1:=Lib.hid (HX.out.keep (by omega) hk1 hgx.ne);have HC1:=Lib.hid hc1;have HK1:=Lib.hid hk1;obtain⟨b,o,rfl,hcell⟩:=RowB.at hr1 (k:=0) (by simp);have y0:=hcell 0 (by simp);simp only[Nat.add_zero,List.getElem_cons_zero]at y0;have x1:=HX1.out.cell (List.getElem?_eq_getElem hox);have z1:=HX1.out.froz hox;clear hr1 hc1 hk1 hcell))
  go_end0
  exact⟨(HK1.out.turn (gx:=gx) (fun k e=> .inl e)).set _ _ (.inr (.inl rfl)),.inl ⟨_,_,HS.out,rfl,HC1.out.keep ((Keep.refl (fun k=>k= gx) _).set _ _ rfl) (fun k e=>by subst e;exact hgx),HX1.out.set hox _⟩⟩
end Go.Proofs.YtfdmhpohfjbpfaaGreat
