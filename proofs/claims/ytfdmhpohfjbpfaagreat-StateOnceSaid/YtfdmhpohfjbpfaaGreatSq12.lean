import Derived.Test.YtfdmhpohfjbpfaaGreatSqWirCrC
import Derived.Test.YtfdmhpohfjbpfaaGreatSqWirNum
set_option linter.unusedVariables false
set_option linter.unusedSimpArgs false
namespace Go.Proofs.YtfdmhpohfjbpfaaGreat
open Go.ChangeShapes Go.WideShapes Go.ChangeAt Go.RowKit
set_option maxRecDepth 100000
theorem Turn.of' {g gx:Nat} {w w':World} (h:Keep (fun k=>k= g∨w.heap.size≤ k) w w'):Turn g gx w w':=h.mono fun k _ e=>by rcases e with e|e;exact .inl e;exact .inr (.inr e)
theorem count_le {bs:List UInt8} {size p v q:Nat} (h:countP size bs p= .ok (v,q)):v≤ (bs.length-q)/size:= by
 unfold countP at h
 cases hs:numP bs p with
 |error e=>rw [hs]at h;cases h
 |ok y=>
  obtain⟨b,m⟩:=y
  rw[hs]at h
  simp only[bindP]at h
  split at h
  ·cases h
  ·simp only[Except.ok.injEq,Prod.mk.injEq]at h
   obtain⟨rfl,rfl⟩:=h
   omega
def putI (cs:List Value) (o:Nat) (xs:List Int):List Value:=cs.take o++(xs.map (.int .i64)++cs.drop (o+xs.length))
theorem putI_nil (cs:List Value) (o:Nat):putI cs o []=cs:= by unfold putI;simp
theorem putI_length {cs:List Value} {o:Nat} {xs:List Int} (h:o+ xs.length≤cs.length):(putI cs o xs).length=cs.length:= by unfold putI;simp;omega
theorem putI_snoc {cs:List Value} {o:Nat} {xs:List Int} (h:o+ xs.length<cs.length) (v:Int):(putI cs o xs).set (o+xs.length) (.int .i64 v)=putI cs o (xs++[v]):=by
 have hl:(cs.take o).length=o:= by rw[List.length_take];omega
 unfold putI
 rw[List.set_append,if_neg (by rw[hl];omega),hl,Nat.add_sub_cancel_left,List.set_append,if_neg (by simp),List.length_map,Nat.sub_self,List.drop_eq_getElem_cons h,List.set_cons_zero]
 simp[Nat.add_assoc]
theorem times_snoc {α:Type} {one:List UInt8→Nat→ Got α} {l:List UInt8}:∀ {k p q q':Nat} {xs:List α} {v:α},timesP one k l p= .ok (xs,q)→one l q= .ok (v,q')→timesP one (k+1) l p= .ok (xs++[v],q')
 |0,p,q,q',xs,v,h,h2=>by
  simp only[timesP,Except.ok.injEq,Prod.mk.injEq]at h
  obtain⟨rfl,rfl⟩:=h
  simp only[timesP,h2,bindP,List.nil_append]
 |k+ 1,p,q,q',xs,v,h,h2=>by
  simp only[timesP]at h
  cases ho:one l p with
  |error e=>rw [ho]at h;cases h
  |ok y=>
   obtain⟨x,m⟩:=y
   rw[ho]at h
   simp only[bindP]at h
   cases ht:timesP one k l m with
   |error e=>rw [ht]at h;cases h
   |ok z=>
    obtain⟨ys,m2⟩:=z
    rw[ht]at h
    simp only[Except.ok.injEq,Prod.mk.injEq]at h
    obtain⟨rfl,rfl⟩:=h
    have:=times_snoc ht h2
    rw[timesP,ho]
    simp only[bindP]
    rw[this]
    simp
theorem times_fail {α:Type} {one:List UInt8→Nat→ Got α} {l:List UInt8}:∀ {k m p q f:Nat} {xs:List α},timesP one k l p= .ok (xs,q)→one l q= .error f→k< m→timesP one m l p= .error f
 |0,0,_,_,_,_,_,_,hm=>absurd hm (by omega)
 |0,m+1,p,q,f,xs,h,h2,_=>by
  simp only[timesP,Except.ok.injEq,Prod.mk.injEq]at h
  obtain⟨rfl,rfl⟩:=h
  simp only[timesP,h2,bindP]
 |k+ 1,0,_,_,_,_,_,_,hm=>absurd hm (by omega)
 |k+ 1,m+1,p,q,f,xs,h,h2,hm=>by
  simp only[timesP]at h
  cases ho:one l p with
  |error e=>rw [ho]at h;cases h
  |ok y=>
   obtain⟨x,m1⟩:=y
   rw[ho]at h
   simp only[bindP]at h
   cases ht:timesP one k l m1 with
   |error e=>rw [ht]at h;cases h
   |ok z=>
    obtain⟨ys,m2⟩:=z
    rw[ht]at h
    simp only[Except.ok.injEq,Prod.mk.injEq]at h
    obtain⟨rfl,rfl⟩:=h
    have:=times_fail (m:=m) ht h2 (by omega)
    rw[timesP,ho]
    simp only[bindP]
    rw[this]
theorem bindP_assoc {α β γ:Type} (x:Got α) (f:α→ Nat→Got β) (g:β→ Nat→Got γ):bindP (bindP x f) g=bindP x (fun a q=>bindP (f a q) g):=by cases x<;>rfl
theorem bindP_ok {α β:Type} (a:α) (q:Nat) (f:α→ Nat→Got β):bindP (.ok (a,q)) f=f a q:=rfl
theorem Box.sets {g:Nat}:∀(vs:List Value) (i:Nat) (w:World) (cs:List Value),Box w g cs→i+ vs.length≤cs.length→ Box (w.setCells g i vs) g (cs.take i++(vs++cs.drop (i+vs.length)))
 |[],i,w,cs,h,_=>by rw[World.setCells];simpa using h
 |v:: vs,i,w,cs,h,hl=>by
  rw[List.length_cons]at hl
  have h2:=Box.sets vs (i+1) _ _ (h.set (i:=i) (by omega) v) (by rw[List.length_set];omega)
  rw[World.setCells]
  have e:(cs.set i v).take (i+1)++(vs++(cs.set i v).drop (i+1+ vs.length))=cs.take i++(v::vs++ cs.drop (i+(v::vs).length)):=by
   rw[List.take_set,List.drop_set_of_lt (by omega),List.length_cons,List.take_succ_eq_append_getElem (by omega),List.set_append,if_neg (by rw[List.length_take];omega)]
   simp[List.length_take,Nat.min_eq_left (show i≤cs.length by omega),Nat.add_assoc,Nat.add_comm 1]
  rw[e]at h2;exact h2
theorem Box.whole {g:Nat} {w:World} {cs vs:List Value} (h:Box w g cs) (hl:vs.length= cs.length):Box (w.setCells g 0 vs) g vs:=by
 have:=Box.sets vs 0 w cs h (by omega)
 simpa[hl]using this
theorem Keep.sets {S:Nat→ Prop} {g:Nat} (hg:S g):∀(vs:List Value) (i:Nat) {w w':World},Keep S w w'→Keep S w (w'.setCells g i vs)
 |[],_,_,_,h=>h
 |v:: vs,i,_,_,h=>Keep.sets hg vs (i+1) (h.set ⟨g,i,none⟩ v hg)
set_option maxHeartbeats 2000000 in
theorem small_w (D g gx ox c:Nat) (a:Option Addr) (bs:List UInt8) (x:UInt8) (w:World) (h:Cw w D g a c bs) (hD:D≤ w.heap.size) (hx:w.cell? ⟨gx,ox,none⟩=some (B x)) (hgx:gx≠ g) (hxa:∀o s,a≠some ⟨gx,o,s⟩) (hn:bs.length≤ 10000000):
 Calls Tryz.prog 154 #[.pointer (some ⟨g,0,none⟩),.pointer (some ⟨gx,ox,none⟩)] w (RetCw w D g a (bs++[x])):=by
 have hcw:=Lib.hid h
 have k0:=h.box.cell (j:=0) rfl
 have k2:=h.box.cell (j:=2) rfl
 have ea:g< w.heap.size:=World.block_lt_of_cell? w _ k0
 have eb:gx< w.heap.size:=World.block_lt_of_cell? w _ hx
 clear h hgx hxa
 go_enter Tryz.func154,Tryz.ntmps154
 go_upto_region 2 with(fail)
 go_region_law (first|(refine step_near el_bytes rfl (.tmp 18) (.tmp 22) rfl D a bs.length c (bs.map B) rfl (Can.drew (hcw.out.can.alloc _)) (some ⟨w.heap.size,0,none⟩) 1 1 [B x] rfl rfl (Row.drew (Row.new _ _ _ _)) (by intro u hu;simp at hu;subst hu;rfl) (by omega) (by simp;omega) (by decide) ?_;intro a2 c2 w2 hcan2 hg2 hn2 hown2;have hst:=Cw.step (ns:=[x]) hcw.out (((Below.refl _ _).alloc (Nat.le_refl _) _).drew) hD hcan2 hg2 hn2 (own_block hown2) (own_lt hown2);have q0:=hst.1.cell (j:=0) rfl;have z0:=hst.1.froz (j:=0) (show 0<3 by decide);have HST:=Lib.hid hst.2;clear hst hcan2 hg2 hn2 hown2))
 all_goals
  clear q0 z0
  go_wp2_with fail
  go_end0
  exact⟨a2,c2,rfl,HST.out.1,HST.out.2⟩
theorem kind_byte {k:Int} (h: -128≤ k∧k< 128):IntKind.u8.wrap k=((kindB k).toNat:Int):=by
 unfold kindB
 rw[UInt8.toNat_ofNat',IntKind.wrap_u8]
 omega
structure LowRow (g:Nat) (w:World) (a:Option Addr) (xs:List Value):Prop where
 row:Row w a xs
 low:xs≠ []→∀b o s,a=some ⟨b,o,s⟩→b< g
theorem LowRow.of {g:Nat} {w:World} {a:Option Addr} {xs:List Value} (h:Row w a xs) (hg:w.heap.size≤ g):LowRow g w a xs:=⟨h,fun h0 b o s e=>by
 rcases h with h|⟨b1,o1,rfl,h1⟩
 ·exact absurd h h0
 ·have:=Row.lt (.inr ⟨b1,o1,rfl,h1⟩) h0
  simp only[Option.some.injEq,Addr.mk.injEq]at e;omega⟩
theorem LowRow.block {g:Nat} {w w':World} {a:Option Addr} {xs:List Value} (h:LowRow g w a xs) (hk:∀k,k<g→ k<w.heap.size→ w'.heap[k]? =w.heap[k]?):LowRow g w' a xs:=⟨by
 by_cases h0:xs= []
 ·exact .inl h0
 ·rcases h.row with h1|⟨b,o,rfl,hc⟩
  ·exact absurd h1 h0
  ·have hlt:=Row.lt (.inr ⟨b,o,rfl,hc⟩) h0
   exact .inr ⟨b,o,rfl,fun i hi=>by rw[World.cell?_of_block (w:=w) (hk b (h.low h0 b o none rfl) hlt)];exact hc i hi⟩,h.low⟩
theorem LowRow.below {g:Nat} {w w':World} {a:Option Addr} {xs:List Value} (h:LowRow g w a xs) (hb:Below w.heap.size w w'):LowRow g w' a xs:=h.block fun k _ hk=>hb.block k hk
theorem LowRow.grew {D g c:Nat} {w w':World} {a a' ad:Option Addr} {bs:List UInt8} {xs:List Value} (h:LowRow g w ad xs) (hc:Cw w D g a c bs) (hg:Grew g a a' w w'):LowRow g w' ad xs:=
 h.block fun k hk hs=>hg.keep k hs (by omega) (fun o s e=>by have:=hc.far _ _ _ e;have:=hc.low;omega)
theorem Grew.pre {g:Nat} {a a':Option Addr} {w W w':World} (h:Grew g a a' W w') (hb:Below w.heap.size w W):Grew g a a' w w':=
 ⟨h.os.trans hb.os,h.tape.trans hb.tape,h.output.trans hb.output,Nat.le_trans hb.size h.size,fun k hk hg ha=>by rw[h.keep k (Nat.lt_of_lt_of_le hk hb.size) hg ha,hb.block k hk],h.near.mono hb.size⟩
theorem Grew.next {g:Nat} {a a':Option Addr} {w w' w'':World} (h:Grew g a a' w w') (hb:Below w'.heap.size w' w''):Grew g a a' w w'':=
 ⟨hb.os.trans h.os,hb.tape.trans h.tape,hb.output.trans h.output,Nat.le_trans h.size hb.size,fun k hk hg ha=>by rw[hb.block k (Nat.lt_of_lt_of_le hk h.size),h.keep k hk hg ha],h.near⟩
set_option maxHeartbeats 1000000 in
theorem kind_w (D g gx ox c:Nat) (a:Option Addr) (bs:List UInt8) (k0:Int) (w:World) (h:Cw w D g a c bs) (hD:D≤ w.heap.size) (hx:w.cell? ⟨gx,ox,none⟩=some (.int .i8 k0)) (hz:w.frozen? ⟨gx,ox,none⟩=false) (hk0: -128≤ k0∧k0< 128) (hgx:gx≠ g) (hxa:∀o s,a≠some ⟨gx,o,s⟩) (hn:bs.length≤ 10000000):
 Calls Tryz.prog 108 #[.pointer (some ⟨g,0,none⟩),.pointer (some ⟨gx,ox,none⟩)] w (RetCw w D g a (bs++[kindB k0])):=by
 have hgl:=World.block_lt_of_cell? w _ hx
 obtain⟨W,hW⟩:∃W,W=w.alloc (.cells #[.int .u8 (k0%256)] 5):=⟨_,rfl⟩
 have hB:Below w.heap.size w W:=by rw[hW];exact(Below.refl _ _).alloc (Nat.le_refl _) _
 have hT:Box W w.heap.size [.int .u8 (k0%256)]:=by rw[hW];exact Box.of_alloc (Below.refl _ _)
 have hkb:Value.int .u8 (k0%256)=B (kindB k0):=by rw[B,←kind_byte hk0,IntKind.wrap_u8]
 have hks:IntKind.i8.wrap (k0%256)=k0:= by simp[IntKind.wrap,IntKind.bits,IntKind.signed];split<;>omega
 have HS:Hid (Calls Tryz.prog 154 #[.pointer (some ⟨g,0,none⟩),.pointer (some ⟨w.heap.size,0,none⟩)] W (RetCw W D g a (bs++[kindB k0]))):=small_w D g w.heap.size 0 c a bs (kindB k0) W (h.below hB) (Nat.le_trans hD hB.size) (by rw[←hkb];exact hT.cell (j:=0) rfl) h.new.1 h.new.2 (by omega)
 have HC:=Lib.hid h
 have HB:=Lib.hid hB
 have HT:=Lib.hid hT
 have HN:=Lib.hid h.new
 have HK:=Lib.hid hks
 have HO:=Lib.hid (And.intro hgx hxa)
 have hxc:=(hB.cell (p:=⟨gx,ox,none⟩) hgl).trans hx
 have hxz:=(hB.frozen (p:=⟨gx,ox,none⟩) hgl).trans hz
 have HX:=Lib.hid (And.intro hxc hxz)
 have HGL:=Lib.hid hgl
 clear h hB hT hkb hks hgx hxa hxc hxz
 rw[hW]at HS
 have HW:=Lib.hid hW
 clear hW
 go_enter Tryz.func108,Tryz.ntmps108
 go_wp2_with(go_at_call 154;((with_reducible refine HS.out.mono ?_);rw[←HW.out];rintro e w1 ⟨a1,c1,rfl,hcw1,hgr1⟩;have y0:=(HT.out.grew (by simp) hgr1 HN.out.1 HN.out.2).cell (j:=0) rfl;have y1:=grew_cell hgr1 HX.out.1 HO.out.1 HO.out.2;have hbl:=hgr1.keep gx (by have:=HB.out.size;have:=HGL.out;omega) HO.out.1 HO.out.2;have y2:w1.frozen? ⟨gx,ox,none⟩=false:= (by have h2:=HX.out.2;simp only[World.frozen?]at h2 ⊢;rw[hbl];exact h2);have HC1:=Lib.hid hcw1;have HG1:=Lib.hid (hgr1.pre HB.out);clear hcw1 hgr1 hbl))
 rw[HK.out,setCell_id y1]
 go_end0
 exact⟨a1,c1,rfl,HC1.out,HG1.out⟩
set_option maxHeartbeats 1000000 in
theorem truth_w (D g gx ox c:Nat) (a:Option Addr) (bs:List UInt8) (x:Bool) (w:World) (h:Cw w D g a c bs) (hD:D≤ w.heap.size) (hx:w.cell? ⟨gx,ox,none⟩=some (.bool x)) (hz:w.frozen? ⟨gx,ox,none⟩=false) (hgx:gx≠ g) (hxa:∀o s,a≠some ⟨gx,o,s⟩) (hn:bs.length≤ 10000000):
 Calls Tryz.prog 110 #[.pointer (some ⟨g,0,none⟩),.pointer (some ⟨gx,ox,none⟩)] w (RetCw w D g a (bs++[truthB x])):=by
 have hgl:=World.block_lt_of_cell? w _ hx
 obtain⟨W,hW⟩:∃W,W=w.alloc (.cells #[.int .u8 (if x then 1 else 0)] 5):=⟨_,rfl⟩
 have hB:Below w.heap.size w W:=by rw[hW];exact(Below.refl _ _).alloc (Nat.le_refl _) _
 have hT:Box W w.heap.size [B (truthB x)]:=by
  rw[hW];cases x
  ·exact Box.of_alloc (Below.refl _ _)
  ·exact Box.of_alloc (Below.refl _ _)
 have HS:Hid (Calls Tryz.prog 154 #[.pointer (some ⟨g,0,none⟩),.pointer (some ⟨w.heap.size,0,none⟩)] W (RetCw W D g a (bs++[truthB x]))):=small_w D g w.heap.size 0 c a bs (truthB x) W (h.below hB) (Nat.le_trans hD hB.size) (hT.cell (j:=0) rfl) h.new.1 h.new.2 (by omega)
 have HC:=Lib.hid h
 have HB:=Lib.hid hB
 have HT:=Lib.hid hT
 have HN:=Lib.hid h.new
 have HO:=Lib.hid (And.intro hgx hxa)
 have hxc:=(hB.cell (p:=⟨gx,ox,none⟩) hgl).trans hx
 have hxz:=(hB.frozen (p:=⟨gx,ox,none⟩) hgl).trans hz
 have HX:=Lib.hid (And.intro hxc hxz)
 have HGL:=Lib.hid hgl
 clear h hB hT hgx hxa hxc hxz
 rw[hW]at HS
 have HW:=Lib.hid hW
 clear hW
 cases x
 all_goals
  simp only[if_true,Bool.false_eq_true,if_false]at HS HW
  go_enter Tryz.func110,Tryz.ntmps110
  go_wp2_with(go_at_call 154;((with_reducible refine HS.out.mono ?_);rw[←HW.out];rintro e w1 ⟨a1,c1,rfl,hcw1,hgr1⟩;have y0:=(HT.out.grew (by simp) hgr1 HN.out.1 HN.out.2).cell (j:=0) rfl;have y1:=grew_cell hgr1 HX.out.1 HO.out.1 HO.out.2;have hbl:=hgr1.keep gx (by have:=HB.out.size;have:=HGL.out;omega) HO.out.1 HO.out.2;have y2:w1.frozen? ⟨gx,ox,none⟩=false:= (by have h2:=HX.out.2;simp only[World.frozen?]at h2 ⊢;rw[hbl];exact h2);have HC1:=Lib.hid hcw1;have HG1:=Lib.hid (hgr1.pre HB.out);clear hcw1 hgr1 hbl))
  try rw[show Value.bool (((truthB false).toNat:Int)==1)= .bool false from rfl]
  try rw[show Value.bool (((truthB true).toNat:Int)==1)= .bool true from rfl]
  rw[setCell_id y1]
  go_end0
  exact⟨a1,c1,rfl,HC1.out,HG1.out⟩
def RetCount' (w:World) (D g:Nat) (a:Option Addr) (n:Nat) (bs:List UInt8) (e:Ending) (w':World):Prop:= ∃a' c',e= .returned (.int .i64 n)∧Cw w' D g a' c' bs∧Grew g a a' w w'
set_option maxHeartbeats 1000000 in
theorem count_w (D g c size:Nat) (n:Nat) (a:Option Addr) (bs:List UInt8) (w:World) (h:Cw w D g a c bs) (hD:D≤ w.heap.size) (hn:bs.length≤ 10000000):
 Calls Tryz.prog 156 #[.pointer (some ⟨g,0,none⟩),.int .i64 n,.int .i64 size] w (RetCount' w D g a n (bs++be8 n)):=by
 have x0:=h.box.cell (j:=1) rfl
 have hgl:=h.box.lt (by simp)
 obtain⟨W,hW⟩:∃W,W=w.alloc (.cells #[.int .i64 n] 3):=⟨_,rfl⟩
 have hB:Below w.heap.size w W:=by rw[hW];exact(Below.refl _ _).alloc (Nat.le_refl _) _
 have hT:Box W w.heap.size [.int .i64 n]:=by rw[hW];exact Box.of_alloc (Below.refl _ _)
 have HS:Hid (Calls Tryz.prog 109 #[.pointer (some ⟨g,0,none⟩),.pointer (some ⟨w.heap.size,0,none⟩)] W (RetCw W D g a (bs++be8 n))):=number_w D g w.heap.size 0 c a bs n W (h.below hB) (Nat.le_trans hD hB.size) (hT.cell (j:=0) rfl) h.new.1 h.new.2 hn
 have HT:=Lib.hid hT
 have HN:=Lib.hid h.new
 have HB:=Lib.hid hB
 clear h hB hT
 rw[hW]at HS
 have HW:=Lib.hid hW
 clear hW
 go_enter Tryz.func156,Tryz.ntmps156
 go_wp2_with(go_at_call 109;((with_reducible refine HS.out.mono ?_);rw[←HW.out];rintro e w1 ⟨a1,c1,rfl,hcw1,hgr1⟩;have y0:=(HT.out.grew (by simp) hgr1 HN.out.1 HN.out.2).cell (j:=0) rfl;have y2:=hcw1.box.cell (j:=2) rfl;have HC1:=Lib.hid hcw1;have HG1:=Lib.hid (hgr1.pre HB.out);clear hcw1 hgr1))
 go_quiet (fail)
 go_wp2
 go_ret
 exact⟨a1,c1,rfl,HC1.out.below (below_drewN (Below.refl w1.heap.size w1) nq),HG1.out.next (below_drewN (Below.refl w1.heap.size w1) nq)⟩
theorem step_far {P:Program} {w:World} {ops:Array Oper} {o:Oper} {ac:Act} {K:Act→ World→Prop} {Q:Exit→ Act→World→ Prop} {E:Prop} {t e:TypeId} {size bytes:Nat} (el:Elem P t e size bytes) (hgd:o.guard= none) (s x:Operand)
 (ho:o.op= .call {callee:= .builtin .append,args:= #[s,x],argTypes:= #[t,t]})
 (D:Nat) (a:Option Addr) (n c:Nat) (xs:List Value) (hs:ac.eval s= .slice a n c) (hcan:Can w D e size a n c xs)
 (ad:Option Addr) (m k:Nat) (news:List Value) (hx:ac.eval x= .slice ad m k) (hl:news.length= m*size) (hr:Row w ad news) (h1:∀u∈ news,u.oneCell'=true)
 (hbytes:(n+m)*bytes≤ 140737488355328) (hD:D≤ w.heap.size) (hfar:∀b o s,a=some ⟨b,o,s⟩→D≤ b∧b< w.heap.size)
 (h:∀a' c' w',Can w' D e size a' (n+m) c' (xs++news)→w.grownBy w' (Value.slice a n c).ownBlock→Near w.heap.size a a'→(∀b o s,a'=some ⟨b,o,s⟩→D≤ b)→(∀b o s,a'=some ⟨b,o,s⟩→b< w'.heap.size)→K (ac.put o.dst (.slice a' (n+m) c')) w'):
 if Region.wanted o (yielded ops ac.tmps)=true then Oper.wp P o ac w K Q else E:=by
 have hw:Region.wanted o (yielded ops ac.tmps)=true:= by simp[Region.wanted,hgd]
 rw[if_pos hw]
 obtain⟨a',c',w',hrun,h2,h3,h4,h5⟩:=run_can el o.type D a n c xs hcan ad m k news hl hr h1 hbytes hD
 unfold Oper.wp execOp
 simp only[ho,resolve,invoke,builtin,Sem.run_bind,Sem.run_pure,Result.andThen_ok,List.map_toArray,List.map_cons,List.map_nil,hs,hx,hrun]
 by_cases hm:0< m
 ·have hn:=can_near el o.type D a n c xs hcan ad m k news hl hr h1 hbytes hm hrun
  exact h a' c' w' h2 h3 hn (own_block (h5.1 hm)) (own_lt (h5.1 hm))
 ·obtain⟨rfl,-⟩:=h5.2 (by omega)
  exact h a' c' w' h2 h3 (Near.self _ _) (fun b o s e=>(hfar b o s e).1) (fun b o s e=>Nat.lt_of_lt_of_le (hfar b o s e).2 h3.size)
theorem step_ok {α β:Type} {X:Got β} {y:Got α} {f:α→ Nat→Got β} {v:α} {q:Nat} (h:X= bindP y f) (hy:y= .ok (v,q)):X= f v q:=by rw[h,hy];rfl
theorem step_bad {α β:Type} {X:Got β} {y:Got α} {f:α→ Nat→Got β} {e:Nat} (h:X= bindP y f) (hy:y= .error e):X= .error e:=by rw[h,hy];rfl
structure FarRow (W w:World) (a:Option Addr) (xs:List Value):Prop where
 row:Row w a xs
 far:xs≠ []→∀b o s,a=some ⟨b,o,s⟩→W.heap.size≤ b
theorem FarRow.block {W w w':World} {a:Option Addr} {xs:List Value} (h:FarRow W w a xs) (hk:∀k,W.heap.size≤k→ k<w.heap.size→ (∀o s,a=some ⟨k,o,s⟩→w'.heap[k]? =w.heap[k]?)):FarRow W w' a xs:=⟨by
 by_cases h0:xs= []
 ·exact .inl h0
 ·rcases h.row with h1|⟨b,o,rfl,hc⟩
  ·exact absurd h1 h0
  ·have hlt:=Row.lt (.inr ⟨b,o,rfl,hc⟩) h0
   exact .inr ⟨b,o,rfl,fun i hi=>by rw[World.cell?_of_block (w:=w) (hk b (h.far h0 b o none rfl) hlt o none rfl)];exact hc i hi⟩,h.far⟩
theorem FarRow.turn {W w w':World} {g gx:Nat} {a:Option Addr} {xs:List Value} (h:FarRow W w a xs) (ht:Turn g gx w w') (hg:g< W.heap.size) (hx:gx< W.heap.size):FarRow W w' a xs:=
 h.block fun k h1 h2 _ _ _=>ht.block k h2 (by omega)
theorem FarRow.below {W w w':World} {a:Option Addr} {xs:List Value} (h:FarRow W w a xs) (hb:Below w.heap.size w w'):FarRow W w' a xs:=h.block fun k _ h2 _ _ _=>hb.block k h2
theorem FarRow.mono {W W' w:World} {a:Option Addr} {xs:List Value} (h:FarRow W w a xs) (hw:W'.heap.size≤ W.heap.size):FarRow W' w a xs:=⟨h.row,fun h0 b o s e=>Nat.le_trans hw (h.far h0 b o s e)⟩
theorem FarRow.keep {S:Nat→ Prop} {W w w':World} {a:Option Addr} {xs:List Value} (h:FarRow W w a xs) (hk:Keep S w w') (hs:∀k,S k→k< W.heap.size):FarRow W w' a xs:=h.block fun k h1 h2 _ _ _=>hk.block k h2 (fun e=>by have:=hs k e;omega)
theorem FarRow.nil (W w:World) (a:Option Addr):FarRow W w a []:=⟨.inl rfl,fun h=>absurd rfl h⟩
abbrev PEnt:=Option Addr×Nat
abbrev cellsEnt (v:WEnt) (p:PEnt):List Value:=[.int .i64 v.term,.int .i8 v.kind,.int .i64 v.stamp,B v.set,.slice p.1 v.data.length p.2]
def valEnt (v:WEnt) (p:PEnt):Value:= .agg #[.int .i64 v.term,.int .i8 v.kind,.int .i64 v.stamp,B v.set,.slice p.1 v.data.length p.2]
structure MemEnt (W w:World) (v:WEnt) (p:PEnt):Prop where
 row:FarRow W w p.1 (v.data.map B)
 le:v.data.length≤ p.2
theorem MemEnt.keep {S:Nat→ Prop} {W w w':World} {v:WEnt} {p:PEnt} (h:MemEnt W w v p) (hk:Keep S w w') (hs:∀k,S k→k< W.heap.size):MemEnt W w' v p:=⟨h.row.keep hk hs,h.le⟩
theorem MemEnt.mono {W W' w:World} {v:WEnt} {p:PEnt} (h:MemEnt W w v p) (hw:W'.heap.size≤ W.heap.size):MemEnt W' w v p:=⟨h.row.mono hw,h.le⟩
theorem MemEnt.below {W w w':World} {v:WEnt} {p:PEnt} (h:MemEnt W w v p) (hb:Below w.heap.size w w'):MemEnt W w' v p:=⟨h.row.below hb,h.le⟩
theorem LowRow.up {g g':Nat} {w W:World} {a:Option Addr} {xs:List Value} (h:LowRow g w a xs) (hg:g≤ g') (hb:Below w.heap.size w W):LowRow g' W a xs:=⟨(h.below hb).row,fun h0 b o s e=>by have:=h.low h0 b o s e;omega⟩
structure LowEnt (g:Nat) (w:World) (v:WEnt) (p:PEnt):Prop where
 row:LowRow g w p.1 (v.data.map B)
theorem LowEnt.up {g g':Nat} {w W:World} {v:WEnt} {p:PEnt} (h:LowEnt g w v p) (hg:g≤ g') (hb:Below w.heap.size w W):LowEnt g' W v p:=⟨h.row.up hg hb⟩
theorem List.set_getElem_self' {α:Type} {l:List α} {i:Nat} {v:α} (h:l[i]? =some v):l.set i v=l:= by
 obtain⟨h1,h2⟩:=List.getElem?_eq_some_iff.1 h
 subst h2
 exact List.set_getElem_self h1
structure Ls (w w':World) (g gx ox:Nat) (a:Option Addr) (c:Nat) (bs:List UInt8) (q:Nat) (cs:List Value) (T:TypeId) (size:Nat) (a1:Option Addr) (n c1:Nat) (xs:List Value):Prop where
 cr:Cr w' g a c bs q
 turn:Turn g gx w w'
 box:Box w' gx (cs.set ox (.slice a1 n c1))
 can:Can w' w.heap.size T size a1 n c1 xs
 far:∀b o s,a1=some ⟨b,o,s⟩→w.heap.size≤ b∧b< w'.heap.size
 gl:g< w.heap.size
 xl:gx< w.heap.size
 off:Off g (rowA a bs) gx
 ox:ox< cs.length
theorem Ls.one {w wr w2:World} {o:Obj} {g gx ox c q q' T size n c1:Nat} {a a1:Option Addr} {bs:List UInt8} {cs xs:List Value} (h:Ls w wr g gx ox a c bs q cs T size a1 n c1 xs) (ht:Turn g wr.heap.size (wr.alloc o) w2) (hc:Cr w2 g a c bs q'):Ls w w2 g gx ox a c bs q' cs T size a1 n c1 xs:=by
 have hs:=h.turn.size
 have hg:=h.gl
 have hx:=h.xl
 have hsz:(wr.alloc o).heap.size=wr.heap.size+ 1:=by simp
 have hts:=ht.size
 have hm:Mid w.heap.size wr.heap.size wr w2:=⟨by omega,fun k h1 h2=>by
  rw[ht.block k (by omega) (by omega)]
  exact heap_alloc_old _ _ h2⟩
 refine⟨hc,?_,?_,can_mid h.can hm (fun b o s e=> .inl (h.far b o s e).1) (Nat.le_refl _) (Nat.le_refl _),fun b o s e=>⟨(h.far b o s e).1,by have:=(h.far b o s e).2;omega⟩,hg,hx,h.off,h.ox⟩
 ·exact Keep.trans (h.turn.next (Turn.below (mid_alloc' (Below.refl _ _)))) (ht.mono fun k _ e=>by rcases e with e|e| e;exact .inl e;exact .inr (.inr (by omega));exact .inr (.inr (by omega)))
 ·have h1:Box (wr.alloc o) gx (cs.set ox (.slice a1 n c1)):=h.box.next (by rw[List.length_set];have:=h.ox;omega) (mid_alloc' (Below.refl _ _))
  exact h1.keep (by rw[List.length_set];have:=h.ox;omega) ht (by have:=h.off.ne;omega)
theorem Ls.push {w w2 W0 w3:World} {g gx ox c q T size n c1 c2:Nat} {a a1 a2:Option Addr} {bs:List UInt8} {cs xs ns:List Value} (h:Ls w w2 g gx ox a c bs q cs T size a1 n c1 xs) (hb:Below w2.heap.size w2 W0)
 (hcan:Can w3 w.heap.size T size a2 (n+1) c2 (xs++ns)) (hg:W0.grownBy w3 (Value.slice a1 n c1).ownBlock) (hown:∀b o s,a2=some ⟨b,o,s⟩→w.heap.size≤ b) (hlt:∀b o s,a2=some ⟨b,o,s⟩→b< w3.heap.size):
 Ls w (w3.setCell ⟨gx,ox,none⟩ (.slice a2 (n+1) c2)) g gx ox a c bs q cs T size a2 (n+1) c2 (xs++ns)∧Box w3 gx (cs.set ox (.slice a1 n c1))∧(∀k,k<w2.heap.size→ (∀o s,a1≠some ⟨k,o,s⟩)→w3.heap[k]? =w2.heap[k]?):=by
 have hs:=h.turn.size
 have hgl:=h.gl
 have hx:=h.xl
 have ow:∀k,(∀o s,a1≠some ⟨k,o,s⟩)→some k≠(Value.slice a1 n c1).ownBlock:=fun k hk e=>by
  cases a1 with
  |none=> simp[Value.ownBlock]at e
  |some ad=>
   obtain⟨y,u,v⟩:=ad
   simp[Value.ownBlock]at e
   subst e
   exact hk u v rfl
 have hkeep:∀k,k<w2.heap.size→ (∀o s,a1≠some ⟨k,o,s⟩)→w3.heap[k]? =w2.heap[k]?:=fun k hk hne=>by
  rw[hg.block k (Nat.lt_of_lt_of_le hk hb.size) (ow k hne),hb.block k hk]
 have hks:Keep (fun k=>w.heap.size≤ k) w2 w3:=⟨hg.os.trans hb.os,hg.tape.trans hb.tape,hg.output.trans hb.output,Nat.le_trans hb.size hg.size,fun k hk hn=>hkeep k hk (fun o s e=>hn (h.far k o s e).1)⟩
 have hlen:0< (cs.set ox (.slice a1 n c1)).length:=by rw[List.length_set];have:=h.ox;omega
 have hbx:Box w3 gx (cs.set ox (.slice a1 n c1)):=h.box.keep hlen hks (by omega)
 have hoffk:∀k,w.heap.size≤k→ Off g (rowA a bs) k:=fun k hk=>⟨by omega,fun o s e=>by have:=h.cr.low k o s e;omega⟩
 have hset:=hbx.set (i:=ox) (by rw[List.length_set];exact h.ox) (.slice a2 (n+1) c2)
 rw[List.set_set]at hset
 refine⟨⟨(h.cr.keep hks hoffk).keep ((Keep.refl (fun k=>k= gx) _).set _ _ rfl) (fun k e=>by subst e;exact h.off),?_,hset,?_,fun b o s e=>⟨hown b o s e,by have:=hlt b o s e;simpa using this⟩,hgl,hx,h.off,h.ox⟩,hbx,hkeep⟩
 ·exact(Keep.trans h.turn (hks.mono fun k _ e=> .inr (.inr e))).set _ _ (.inr (.inl rfl))
 ·exact can_mid hcan ((Mid.refl w.heap.size w3.heap.size w3).setCell ⟨gx,ox,none⟩ _ (.inl hx)) (fun b o s e=> .inl (hown b o s e)) (Nat.le_refl _) (Nat.le_refl _)
abbrev cellsInt (x:Int):List Value:=[.int .i64 x]
theorem el_int:Elem Tryz.prog 52 3 1 8 where
 under:=Tryz.underlying52
 info:=by
  have h:(Tryz.prog.info? 3).map (fun i=>(i.zero.map fun z=>(z.cells.size,z.cells.all (·.oneCell')),i.size,i.bytes))=some (some (1,true),1,8):=by kernel_rfl
  cases hi:Tryz.prog.info? 3 with
  |none=> rw[hi]at h;cases h
  |some i=>
   rw[hi,Option.map_some]at h
   cases hz:i.zero with
   |none=> rw[hz]at h;simp at h
   |some z=>
    rw[hz]at h
    simp at h
    exact⟨i,z,rfl,hz,h.2.1,h.2.2,h.1.1⟩
 pos:=by decide
 bpos:=by decide
def IsListInt (w0:World) (gx ox:Nat) (cs:List Value) (xs:List Int) (w':World):Prop:= ∃(a':Option Addr) (c':Nat),Box w' gx (cs.set ox (.slice a' xs.length c'))∧FarRow w0 w' a' (xs.flatMap cellsInt)∧xs.length≤ c'
set_option maxHeartbeats 8000000 in
theorem listint_t (g c p gx ox:Nat) (a:Option Addr) (bs:List UInt8) (cs:List Value) (w:World) (h:Cr w g a c bs p) (hl:bs.length≤ 2000000) (hx:Box w gx cs) (hgx:Off g (rowA a bs) gx) (hox:ox< cs.length) (hv:cs[ox]? =some (.slice none 0 0)):
 Calls Tryz.prog 111 #[.pointer (some ⟨g,0,none⟩),.pointer (some ⟨gx,ox,none⟩),.int .i64 8,.func (.func 109) #[.pointer (some ⟨g,0,none⟩)] #[]] w (RetTw w g gx cs.length a c bs (listP 8 numP bs p) (IsListInt w gx ox cs)):=by
 have x0:=hx.cell hv
 have hxl:=hx.lt (by omega)
 have hgl:=h.box.lt (by simp)
 have HCO:Hid (Calls Tryz.prog 156 #[.pointer (some ⟨g,0,none⟩),.int .i64 0,.int .i64 8] w (RetCount w g a c bs (countP 8 bs p))):=count_t g c p 8 0 a bs w h hl (by omega) (by omega)
 have HX:=Lib.hid hx
 have HE:=Lib.hid (And.intro hxl hgl)
 have HV:=Lib.hid hv
 clear h hx hv
 go_enter Tryz.func111,Tryz.ntmps111
 go_wp2_with(go_at_call 156;((with_reducible refine HCO.out.mono ?_);rintro e w1 ⟨ht,⟨n,q,hr,rfl,hc⟩|⟨f,hr,rfl⟩⟩<;>have HT1:=Lib.hid (Turn.of' (gx:=gx) ht)<;>have HX1:=Lib.hid (HX.out.keep (by omega) ht (by have:=HE.out.1;have:=hgx.ne;omega))<;>have HR:=Lib.hid hr<;>clear ht hr;all_goals(first|(have x1:=HX1.out.cell (List.getElem?_eq_getElem hox);have z1:=HX1.out.froz hox;have r2:=hc.box.cell (j:=2) rfl;have HC1:=Lib.hid hc;clear hc)|skip)))
 ·have x2:=HX1.out.cell HV.out
  rw[setCell_id x2]
  have hid:cs.set ox (.slice none 0 0)=cs:= List.set_getElem_self' HV.out
  have HL0:Hid (Ls w w1 g gx ox a c bs q cs 3 1 none 0 0 []):=⟨HC1.out,HT1.out,by rw[hid];exact HX1.out,Can.nil _ _ _ _,(fun _ _ _ h=>by cases h),HE.out.2,HE.out.1,hgx,hox⟩
  have hnq:=count_le HR.out
  have hnl:n≤ 2000000:=Nat.le_trans hnq (Nat.le_trans (Nat.div_le_self _ _) (by omega))
  clear x0 x1 x2 z1 r2 hid HX1 HT1 HC1 hnq
  go_loopw [26] (fun i wr=>∃(xs:List Int) (q1:Nat) (a1:Option Addr) (c1:Nat),xs.length≤n∧ i= .int .i64 xs.length∧Hid (Ls w wr g gx ox a c bs q1 cs 3 1 a1 xs.length c1 (xs.flatMap cellsInt))∧Hid (timesP numP xs.length bs q= .ok (xs,q1))) (fun i _=>n- (intOf i).toNat)
  case atStart=>exact ⟨[],q,none,0,by simp,rfl,HL0.out,rfl⟩
  case round=>
   obtain⟨xs,q1,a1,c1,hk,rfl,hls,htm⟩:=hrel
   by_cases hlt:xs.length< n
   ·have ht':=hls.out.turn.size
    have hoffX:Off g (rowA a bs) wr.heap.size:=hls.out.cr.new (Nat.le_refl _)
    have HON:=Lib.hid (number_t g c q1 wr.heap.size 0 a bs [.int .i64 0] (wr.alloc (.cells #[.int .i64 0] 3)) (hls.out.cr.below (mid_alloc' (Below.refl _ _))) hl (Box.of_alloc (Below.refl _ _)) hoffX (by simp))
    go_upto_region 7 with((go_at_call 109;((with_reducible refine HON.out.mono ?_);rintro en w4 ⟨ht,⟨v,q4,hr,rfl,hc,hb⟩|⟨f,hr,rfl,hb⟩⟩<;>have HR4:=Lib.hid hr<;>clear hr;all_goals(first|(have HL4:=Lib.hid (hls.out.one ht hc);replace hb:Box w4 wr.heap.size [.int .i64 v]:=hb;have y0:=hb.cell (j:=0) rfl;have HX4:=Lib.hid hb;have k0:=HL4.out.box.cell (j:=ox) (by rw[List.getElem?_set_self hox]);have kz:=HL4.out.box.froz (j:=ox) (by rw[List.length_set];exact hox);have ea:gx< w4.heap.size:=HL4.out.box.lt (by rw[List.length_set];omega);have eb:wr.heap.size< w4.heap.size:=HX4.out.lt (by simp);clear ht hc hb)|(have HL4:=Lib.hid (Keep.trans (hls.out.turn.next (Turn.below (mid_alloc' (Below.refl _ _)))) (ht.mono fun k _ e=>by rcases e with e|e| e;exact .inl e;exact .inr (.inr (by have:=hls.out.turn.size;omega));exact .inr (.inr (by have:=hls.out.turn.size;simp at e;omega))):Turn g gx w w4);have HB4:=Lib.hid ((hls.out.box.next (by rw[List.length_set];omega) (mid_alloc' (Below.refl _ _)):Box (wr.alloc (.cells #[.int .i64 0] 3)) gx _).keep (by rw[List.length_set];omega) ht (by have:=hls.out.xl;have:=hgx.ne;simp;omega));clear ht hb)))))
    ·have hDr:w.heap.size≤ w4.heap.size:=HL4.out.turn.size
     go_region_law (first|(refine step_far el_int rfl (.tmp 33) (.tmp 35) rfl w.heap.size a1 xs.length c1 (xs.flatMap cellsInt) rfl (Can.drew (HL4.out.can.alloc _)) (some ⟨w4.heap.size,0,none⟩) 1 1 [.int .i64 v] rfl rfl (Row.drew (Row.new _ _ _ _)) (by intro u hu;simp at hu;rcases hu with rfl<;>rfl) (by omega) (by simp;omega) (fun b o s e=>⟨(HL4.out.far b o s e).1,by have:=(HL4.out.far b o s e).2;simp;omega⟩) ?_;intro a2 c2 w5 hcan2 hg2 hn2 hf2 hl2;have hst:=HL4.out.push (((Below.refl _ _).alloc (Nat.le_refl _) _).drew) hcan2 hg2 hf2 hl2;have q0:=hst.2.1.cell (j:=ox) (by rw[List.getElem?_set_self hox]);have q1z:=hst.2.1.froz (j:=ox) (by rw[List.length_set];exact hox);have HST:=Lib.hid hst;clear hst hcan2 hg2 hn2 hf2 hl2))
     all_goals
      clear q0 q1z
      go_wp2_with fail
      exact⟨⟨xs++[v],q4,a2,c2,by simp;omega,by simp,by(show Ls _ _ _ _ _ _ _ _ _ _ _ _ _ _ _ _);rw[List.length_append,List.flatMap_append,List.flatMap_singleton];exact HST.out.1,by(show _=_);rw[List.length_append];exact times_snoc htm.out HR4.out⟩,by simp[intOf];omega⟩
    ·refine⟨rfl,HL4.out,.inr ⟨_,?_,rfl,.of HB4.out (by rw[List.length_set])⟩⟩
     (show bindP _ _=_);rw[HR.out]
     exact times_fail htm.out HR4.out hlt
   ·have hln:xs.length= n:=by omega
    have HLN:=Lib.hid hln
    have hd:decide (xs.length<n)=false:= decide_eq_false hlt
    clear hln hlt
    go_wp2
    first|go_end0| refine bodyPost_ret (results_none rfl _ _ _) rfl ?_
    refine⟨hls.out.turn,.inl ⟨xs,q1,?_,rfl,hls.out.cr,a1,c1,hls.out.box,⟨hls.out.can.row,fun _ b o s e=>(hls.out.far b o s e).1⟩,hls.out.can.le⟩⟩
    (show bindP _ _=_);rw[HR.out,bindP_ok,←HLN.out];exact htm.out
 ·exact⟨rfl,HT1.out,.inr ⟨_,by(show bindP _ _=_);rw[HR.out];rfl,rfl,.of HX1.out rfl⟩⟩
set_option maxHeartbeats 4000000 in
theorem listint_w (D g gx ox c m kk:Nat) (a ad:Option Addr) (bs:List UInt8) (xs:List (Int)) (w:World) (h:Cw w D g a c bs) (hD:D≤ w.heap.size) (hx:w.cell? ⟨gx,ox,none⟩=some (.slice ad m kk)) (hm:xs.length= m) (hr:LowRow g w ad (xs.flatMap cellsInt)) (hgx:gx≠ g) (hxa:∀o s,a≠some ⟨gx,o,s⟩) (hn:bs.length≤ 1500000) (hsz:(xs.flatMap be8).length≤1000000) (hm2:m≤ 1000000):
 Calls Tryz.prog 111 #[.pointer (some ⟨g,0,none⟩),.pointer (some ⟨gx,ox,none⟩),.int .i64 8,.func (.func 109) #[.pointer (some ⟨g,0,none⟩)] #[]] w (RetCw w D g a (bs++(be8 xs.length++xs.flatMap be8))):=by
 have HCO:Hid (Calls Tryz.prog 156 #[.pointer (some ⟨g,0,none⟩),.int .i64 m,.int .i64 8] w (RetCount' w D g a m (bs++be8 (m:Int)))):=count_w D g c 8 m a bs w h hD (by omega)
 have HC:=Lib.hid h
 have HX:=Lib.hid (And.intro hx (And.intro hgx hxa))
 have HR:=Lib.hid hr
 have HM:=Lib.hid hm
 have hgxl:=World.block_lt_of_cell? w _ hx
 have hlb:(bs++be8 (m:Int)).length≤1500008:= by rw[List.length_append,be8_length];omega
 have HTT:=Lib.hid (show bs++(be8 xs.length++xs.flatMap be8)=(bs++be8 (m:Int))++xs.flatMap be8 by rw[hm,List.append_assoc])
 clear h hgx hxa hr hm
 generalize bs++be8 (m:Int)=l1 at HCO HTT hlb
 go_enter Tryz.func111,Tryz.ntmps111
 go_wp2_with(go_at_call 156;((with_reducible refine HCO.out.mono ?_);rintro e w1 ⟨a1,c1,rfl,hcw1,hgr1⟩;have y1:=grew_cell hgr1 HX.out.1 HX.out.2.1 HX.out.2.2;have y2:=hcw1.box.cell (j:=2) rfl;have HC1:=Lib.hid hcw1;have HG1:=Lib.hid hgr1;clear hcw1 hgr1))
 clear y1 y2
 go_loopw [43] (fun i wr=>∃(k:Nat) (a3:Option Addr) (c3:Nat),k≤m∧ i= .int .i64 k∧Hid (Cw wr D g a3 c3 (l1++(xs.take k).flatMap be8))∧Hid (Grew g a a3 w wr)) (fun i _=>m- (intOf i).toNat)
 case atStart=>exact ⟨0,a1,c1,by omega,rfl,by show Cw _ _ _ _ _ _;simpa using HC1.out,HG1.out⟩
 case round=>
  obtain⟨k,a3,c3,hk,rfl,hcw,hgr⟩:=hrel
  by_cases hlt:k< m
  ·have hkx:k< xs.length:=by rw[HM.out];exact hlt
   have hDr:D≤ wr.heap.size:=Nat.le_trans hD hgr.out.size
   have y1:=grew_cell hgr.out HX.out.1 HX.out.2.1 HX.out.2.2
   have hrow:=HR.out.grew HC.out hgr.out
   have HT:=Lib.hid (show l1++(xs.take (k+1)).flatMap be8=(l1++(xs.take k).flatMap be8)++be8 (xs[k]'hkx) by rw[List.take_succ_eq_append_getElem hkx,List.flatMap_append,List.flatMap_singleton,List.append_assoc])
   have hll:(l1++(xs.take k).flatMap be8).length≤2600000:= by
    have h1:xs.flatMap be8=(xs.take k).flatMap be8++(xs.drop k).flatMap be8:=by rw[←List.flatMap_append,List.take_append_drop]
    have h2:=congrArg List.length h1
    rw[List.length_append]at h2
    rw[List.length_append];omega
   obtain⟨b,o,rfl,hcell⟩:=Row.at hrow.row (k:=k* 1) (by rw[flatMap_len (cells:=cellsInt) (size:=1) (fun _=>rfl)];have:=Nat.mul_lt_mul_of_pos_right hkx (show 0<1 by decide);omega)
   have hce:∀r,r<1→ wr.cell? ⟨b,o+k* 1+r,none⟩=(cellsInt (xs[k]'hkx))[r]?:=fun r hr=>by
    have h1:=flatMap_at (cells:=cellsInt) (size:=1) (fun _=>rfl) (xs:=xs) (i:=k) hr
    rw[List.getElem?_eq_getElem hkx,Option.bind_some]at h1
    have h2:k* 1+r< (xs.flatMap cellsInt).length:=by
     rw[flatMap_len (cells:=cellsInt) (size:=1) (fun _=>rfl)]
     first|(simp only[Nat.mul_one];omega)|(have:=Nat.mul_le_mul_right 1 (Nat.succ_le_of_lt hkx);rw[Nat.succ_mul]at this;omega)
    have h3:=hcell (k*1+ r) h2
    rw[Nat.add_assoc,h3,←h1,List.getElem?_eq_getElem h2]
   generalize xs[k]'hkx=v0 at HT hce
   have q0:=hce 0 (by decide)
   rw[show(cellsInt v0)[0]? =some (.int .i64 v0)from rfl]at q0
   simp only[Nat.mul_one,Nat.add_zero]at q0
   clear hce hcell hrow hkx
   have HON:=Lib.hid (number_w D g wr.heap.size 0 c3 a3 (l1++(xs.take k).flatMap be8) v0 (wr.alloc (.cells #[.int .i64 v0] 3)) (hcw.out.below (mid_alloc' (Below.refl _ _))) (by simp;omega) ((Box.of_alloc (cs:=[.int .i64 v0]) (Below.refl _ _)).cell (j:=0) rfl) hcw.out.new.1 hcw.out.new.2 (by omega))
   go_wp2_with(go_at_call 109;((with_reducible refine HON.out.mono ?_);rintro en w4 ⟨a4,c4,rfl,hcw4,hgr4⟩;have HC4:=Lib.hid hcw4;have HG4:=Lib.hid (hgr4.pre (mid_alloc' (Below.refl _ _)));clear hcw4 hgr4))
   exact⟨⟨k+1,a4,c4,by omega,by go_num,by show Cw _ _ _ _ _ _;rw[HT.out];exact HC4.out,hgr.out.trans HG4.out⟩,by simp[intOf];omega⟩
  ·obtain rfl:k= m:=by omega
   have hd:decide (k<k)=false:= decide_eq_false (by omega)
   go_wp2
   first|go_end0| refine bodyPost_ret (results_none rfl _ _ _) rfl ?_
   refine⟨a3,c3,rfl,?_,hgr.out⟩
   rw[HTT.out]
   have h:=hcw.out
   rw[List.take_of_length_le (by rw[HM.out];exact Nat.le_refl _)]at h;exact h
end Go.Proofs.YtfdmhpohfjbpfaaGreat
