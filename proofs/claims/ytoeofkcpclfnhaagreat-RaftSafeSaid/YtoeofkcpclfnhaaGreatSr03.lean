import Derived.Deep.DeepAppendRoom
import Derived.Test.YtoeofkcpclfnhaaGreatSrRwCheck
set_option linter.unusedVariables false
set_option linter.unusedSimpArgs false
namespace Go.Proofs.YtoeofkcpclfnhaaGreat
open Go.ChangeShapes Go.WideShapes Go.ChangeAt Go.RowKit
set_option maxRecDepth 100000
set_option maxHeartbeats 16000000
theorem el_bytes:Elem Tryz.prog 45 5 1 1 where
 under:=Tryz.underlying45
 info:=by
  have h:(Tryz.prog.info? 5).map (fun i=>(i.zero,i.size,i.bytes))=some (some (.int .u8 0),1,1):=k_;obtain⟨i,hi,h0,h1,h2⟩:=info_parts h;exact⟨i,_,hi,h0,h1,h2,rfl⟩
 pos:=d_
 bpos:=d_
theorem bytes_one(l:List UInt8):∀u∈ l.map B,u.oneCell'=true:= by
 intro u hu;obtain⟨x,-,rfl⟩:=List.mem_map.1 hu;rfl
def RetBy(w:World)(l:List UInt8)(e:Ending)(w':World):Prop:= ∃a c,e= .returned (.slice a l.length c)∧RowB w' a l∧Below w.heap.size w w'∧l.length≤ c∧(l≠[]→∀b o s,a=some ⟨b,o,s⟩→w.heap.size≤ b)∧(a=none→ c=0)
theorem cloneB(l:List UInt8)(a:Option Addr)(n c:Nat)(w:World)(hn:l.length= n)(hl:n≤ 1000000)(hc:a= none→c= 0)(hnc:n≤ c)(hr:RowB w a l):
 Calls Tryz.prog 39 #[.slice a n c] w (RetBy w l):=by
 subst hn;cases a with
 |none=>
  obtain rfl:=hc rfl;have h0:l.length= 0:=o_;obtain rfl:l= []:=List.eq_nil_of_length_eq_zero h0;have hnil:=Lib.run_eql_slice_nil (P:=Tryz.prog) w 45 5 none 0 0 0 0 Tryz.underlying45;go_enter Tryz.func39,Tryz.ntmps39;go_wp2;go_returns;exact⟨none,0,rfl,.inl rfl,Below.refl _ _,Nat.le_refl _,fun h=>absurd rfl h,fun _=>rfl⟩
 |some x=>
  have HR:=h_ hr;clear hr;go_enter Tryz.func39,Tryz.ntmps39;have hnil:=Lib.run_eql_slice_nil (P:=Tryz.prog) w 45 5 (some x) l.length c 0 0 Tryz.underlying45;go_wp2_with(at_builtin;refine wpList_can el_bytes rfl _ _ rfl w.heap.size _ 0 _ _ rfl (Can.empty _ _ _ _ _) _ l.length _ (l.map B) rfl (by rw[List.length_map,Nat.mul_one]) (Row.alloc HR.out _) (bytes_one _) o_ (by simp) ?_;intro a' c' w3 hcan3 _ hb3 hown);go_returns;rw[Nat.zero_add,List.nil_append]at hcan3 hown;exact⟨a',c',rfl,hcan3.row,(b_.alloc n_ _).trans hb3,hcan3.le,fun h0 b o s e=>own_block (hown.1 (List.length_pos_iff.2 h0)) b o s e,hcan3.none d_⟩
theorem tq10 {P:Prop}(h:P:=by
 rw[h2]at hrun;simp only[Result.ok.injEq,Value.slice.injEq]at hrun;intro b o s hs;rw[←hrun.1.1]at hs;simp only[Option.some.injEq,Addr.mk.injEq]at hs
 left;omega):P:=h
theorem canNear{P:Program}{w:World}{t e:TypeId}{size bytes:Nat}(el:Elem P t e size bytes)(ty:TypeId)(D:Nat)(a:Option Addr)(n c:Nat)(xs:List Value)(hcan:Can w D e size a n c xs)(ad:Option Addr)(m k:Nat)(news:List Value)(hl:news.length= m*size)(hr:Row w ad news)(h1:∀u∈ news,u.oneCell'=true)(hbytes:(n+m)*bytes≤ 140737488355328)(hm:0< m){a':Option Addr}{c':Nat}{w':World}(hrun:(Builtin.append_ #[t,t] ty #[.slice a n c,.slice ad m k]).run P w= .ok (.slice a' (n+m) c') w'):Near w.heap.size a a':=by
 obtain⟨i,z,hi,hz,hsize,hby,hzs⟩:=el.info;have hp:=el.pos;have hb:=el.bpos;subst hsize;subst hby;have h63:n+ m≤9223372036854775807:= by
  have:n+ m≤(n+m)*i.bytes:= Nat.le_mul_of_pos_right _ hb;omega
 obtain⟨ad',rfl⟩:∃x,ad=some x:=by
  cases ad with
  |some x=>exact ⟨x,rfl⟩
  |none=>
   rcases hr with rfl|⟨_,_,h,_⟩
   ·rw[List.length_nil]at hl;have:=Nat.mul_pos hm hp;omega
   ·cases h
 have hnews:=hr.holds;cases a with
 |none=>
  have hc0:c= 0:=hcan.none hp rfl;have hn0:n= 0:=by have:=hcan.le;omega
  subst hc0;subst hn0;have h2:=Go.run_append_nil (P:=P) w t ty e i z el.under hi hz ad' m k news hl hnews hm o_ (by have h3:=hbytes;rw[Nat.zero_add]at h3;omega);exact tq10
 |some x=>
  by_cases hroom:n+ m≤c
  ·rcases hcan.2.2 with⟨h3,_⟩|hown
   ·omega
   ·rcases hown.2 with⟨h0,_⟩|⟨g',cap',cur,hv,_⟩
    ·cases h0
    ·simp only[Value.slice.injEq]at hv;obtain⟨hx,-,-⟩:=hv;simp only[Option.some.injEq]at hx;subst hx;obtain⟨w2,h2,-,-⟩:=run_append_own_spare (P:=P) w D t ty e i i.size el.under hi rfl g' n c xs hown ad' m k news hl hnews h1 hroom;rw[h2]at hrun;simp only[Result.ok.injEq,Value.slice.injEq]at hrun;rw[←hrun.1.1];exact Near.self _ _
  ·have h2:=run_append_grow (P:=P) w t ty e i z el.under hi hz x n c xs hcan.1 hcan.row.holds ad' m k news hl hnews o_ o_ (growslice_fits o_ hbytes);exact tq10
theorem wpList_nearE{P:Program}{w:World}{ops:Array Oper}{rest:List Oper}{o:Oper}{ac:Act}{Q:Exit→ Act→World→ Prop}{t e:TypeId}{size bytes:Nat}(el:Elem P t e size bytes)(hgd:o.guard= none)(s x:Operand)(ho:o.op= .call {callee:= .builtin .append,args:= #[s,x],argTypes:= #[t,t]})(D:Nat)(a:Option Addr)(n c:Nat)(xs:List Value)(hs:ac.eval s= .slice a n c)(hcan:Can w D e size a n c xs)(ad:Option Addr)(m k:Nat)(news:List Value)(hx:ac.eval x= .slice ad m k)(hl:news.length= m*size)(hr:Row w ad news)(h1:∀u∈ news,u.oneCell'=true)(hbytes:(n+m)*bytes≤ 140737488355328)(hD:D≤ w.heap.size)(h:∀a' c' w',Can w' D e size a' (n+m) c' (xs++news)→w.grownBy w' (Value.slice a n c).ownBlock→Near w.heap.size a a'→wpList P ops Q rest (ac.put o.dst (.slice a' (n+m) c')) w'):wpList P ops Q (o::rest) ac w:=by
 obtain⟨a',c',w',hrun,h2,h3,h4,h5⟩:=run_can el o.type D a n c xs hcan ad m k news hl hr h1 hbytes hD;have hn:Near w.heap.size a a':=by
  by_cases hm:m= 0
  ·rw[(h5.2 hm).1];exact Near.self _ _
  ·exact canNear el o.type D a n c xs hcan ad m k news hl hr h1 hbytes o_ hrun
 refine wpList_plain hgd fun K hK=> ?_
 unfold Oper.wp execOp;simp only[ho,resolve,invoke,builtin,Sem.run_bind,Sem.run_pure,Result.andThen_ok,List.map_toArray,List.map_cons,List.map_nil,hs,hx,hrun];exact hK _ _ (h a' c' w' h2 h3 hn)
theorem el_ent:Elem Tryz.prog 31 79 5 56:=layRw.elem Tryz.underlying31
structure Ap(w:World)(a1:Option Addr)(y:RwE):Prop where
 row:RowB w y.2.1 y.1.data
 apart:y.1.data≠ []→∀b o s,y.2.1=some ⟨b,o,s⟩→∀o' s',a1≠some ⟨b,o',s'⟩
theorem rowB_block{w w':World}{a:Option Addr}{l:List UInt8}(h:RowB w a l)(hb:∀b o s,a=some ⟨b,o,s⟩→b< w.heap.size→l≠ []→w'.heap[b]? =w.heap[b]?):RowB w' a l:=by
 by_cases h0:l= []
 ·rw[h0];exact .inl rfl
 ·have hne:l.map B≠[]:=by simpa using h0
  rcases h with h1|⟨b,o,rfl,hc⟩
  ·exact absurd h1 hne
  ·have hlt:=Row.lt (.inr ⟨b,o,rfl,hc⟩) hne;refine .inr ⟨b,o,rfl,fun i hi=> ?_⟩;rw[World.cell?_of_block (a:=⟨b,o+i,none⟩) (hb b o none rfl hlt h0)];exact hc i hi
theorem Ap.below{w w':World}{B:Nat}{a1:Option Addr}{y:RwE}(h:Ap w a1 y)(hb:Below B w w')(hB:w.heap.size≤ B):Ap w' a1 y:=
 ⟨rowB_block h.row (fun b _ _ _ hlt _=>hb.block b o_),h.apart⟩
theorem Ap.grown{w w':World}{a1 a':Option Addr}{n c:Nat}{y:RwE}(h:Ap w a1 y)(hg:w.grownBy w' (Value.slice a1 n c).ownBlock)(hn:Near w.heap.size a1 a'):Ap w' a' y:=by
 refine⟨rowB_block h.row (fun b o s e hlt h0=>hg.block b hlt (fun e2=> ?_)),fun h0 b o s e o' s' e2=> ?_⟩
 ·cases a1 with
  |none=> simp[Value.ownBlock]at e2
  |some ad=>
   obtain⟨y1,u,v⟩:=ad;simp[Value.ownBlock]at e2;subst e2;exact h.apart h0 b o s e u v rfl
 ·have hlt:b< w.heap.size:=by
   have hne:y.1.data.map B≠[]:=by simpa using h0
   rcases h.row with h1|⟨b1,o1,h1,hc⟩
   ·exact absurd h1 hne
   ·rw[e]at h1;simp only[Option.some.injEq,Addr.mk.injEq]at h1;obtain⟨rfl,rfl,rfl⟩:=h1;exact Row.lt (.inr ⟨b,o,rfl,hc⟩) hne
  rcases hn b o' s' e2 with h1|⟨o2,s2,h1⟩
  ·omega
  ·exact h.apart h0 b o s e o2 s2 h1
theorem canNext{w w':World}{B n c:Nat}{e:TypeId}{size:Nat}{a:Option Addr}{xs:List Value}(h:Can w B e size a n c xs)(hb:Below w.heap.size w w'):Can w' B e size a n c xs:=
 ⟨h.1,h.2.1,h.2.2.imp (fun h1=>⟨h1.1,Row.below h1.2 hb⟩) (fun h1=>own_mid (B:=0) h1 (Mid.below hb n_) (Nat.zero_le _) n_)⟩
theorem grown_below{w w':World}{B n c:Nat}{a:Option Addr}(hg:w.grownBy w' (Value.slice a n c).ownBlock)(hB:B≤ w.heap.size)(ha:∀b o s,a=some ⟨b,o,s⟩→B≤ b):Below B w w':=
 ⟨hg.os,hg.tape,hg.output,hg.size,fun k hk=>hg.block k o_ (fun e=>by
  cases a with|none=> simp[Value.ownBlock]at e|some ad=>
   obtain⟨y,u,v⟩:=ad;simp[Value.ownBlock]at e;subst e
   have:=ha k u v rfl;omega)⟩
def NewY(B:Nat)(y:RwE):Prop:= (y.1.data≠[]→∀b o s,y.2.1=some ⟨b,o,s⟩→B≤ b)∧y.1.data.length≤ y.2.2∧(y.2.1=none→ y.2.2=0)
def NewE(B:Nat)(a:Option Addr)(c:Nat)(fs:List RwE):Prop:= (fs≠[]→∀b o s,a=some ⟨b,o,s⟩→B≤ b)∧fs.length≤ c∧c≤ maxLen∧(a=none→ c=0)∧∀y∈ fs,NewY B y
theorem NewY.mono{B B':Nat}{y:RwE}(h:NewY B y)(hb:B'≤ B):NewY B' y:=⟨fun h0 b o s e=>Nat.le_trans hb (h.1 h0 b o s e),h.2⟩
theorem NewE.mono{B B':Nat}{a:Option Addr}{c:Nat}{fs:List RwE}(h:NewE B a c fs)(hb:B'≤ B):NewE B' a c fs:=⟨fun h0 b o s e=>Nat.le_trans hb (h.1 h0 b o s e),h.2.1,h.2.2.1,h.2.2.2.1,fun y hy=>(h.2.2.2.2 y hy).mono hb⟩
theorem Can.capM{w:World}{B:Nat}{e:TypeId}{size:Nat}{a:Option Addr}{n c:Nat}{xs:List Value}(h:Can w B e size a n c xs):c≤ maxLen:=by
 rcases h.2.2 with⟨h1,_⟩|h1
 ·rw[←h1];exact h.2.1
 ·obtain⟨_,_,hv,_,hm,_⟩:=own_slice h1;simp only[Value.slice.injEq]at hv;rw[hv.2.2];exact hm
def RetCpN(w:World)(es:List RwE)(e:Ending)(w':World):Prop:= ∃(a:Option Addr) (c:Nat) (fs:List RwE),e= .returned (.slice a fs.length c)∧ents fs=ents es∧Row w' a (fs.flatMap cellsRw)∧(∀y∈ fs,RowB w' y.2.1 y.1.data)∧Below w.heap.size w w'∧NewE w.heap.size a c fs
theorem refcopied_new(es:List RwE)(a:Option Addr)(n c:Nat)(w:World)(hn:es.length= n)(hl:n≤ 1000000)(hle:∀y∈ es,RowB w y.2.1 y.1.data∧y.1.data.length≤ 1000000)(hr:Row w a (es.flatMap cellsRw)):
 Calls Tryz.prog 72 #[.slice a n c] w (RetCpN w es):=by
 have HN:=h_ hn;have HR:=h_ hr;have HLE:=h_ hle;have HLN:Hid ((ents es).length=n):=by show _=_;rw[←hn];exact List.length_map _
 clear hn hr hle;go_enter Tryz.func72,Tryz.ntmps72;go_wp2_with fail;go_loopw [3,4] (fun ov iv wr=>∃(k:Nat) (fs:List RwE) (a1:Option Addr) (c1:Nat),k≤n∧ iv= .int .i64 k∧ov= .slice a1 fs.length c1∧fs.length≤ k∧Hid (ents fs=(ents es).take k)∧Hid (Can wr w.heap.size 79 5 a1 fs.length c1 (fs.flatMap cellsRw))∧Hid (∀y∈ fs,Ap wr a1 y)∧Hid (∀y∈ fs,NewY w.heap.size y)∧Hid (∀b o s,a1=some ⟨b,o,s⟩→w.heap.size≤ b∧b< wr.heap.size)∧Hid (Below w.heap.size w wr)) (fun _ iv _=>n- (intOf iv).toNat)
 case atStart=>exact ⟨0,[],none,0,Nat.zero_le _,rfl,rfl,Nat.le_refl _,rfl,Can.nil _ _ _ _,(fun y hy=>by cases hy),(fun y hy=>by cases hy),(fun b o s h=>by cases h),Below.refl _ _⟩
 case round=>
  obtain⟨k,fs,a1,c1,hk,rfl,rfl,hfs,HE,HC,HA,HNY,HFA,HB⟩:=hrel;have hsz:=HB.size;by_cases hlt:k< n
  ·have hke:k< es.length:=by rw[HN.out];exact hlt
   have hkl:k< (ents es).length:=by rw[HLN.out];exact hlt
   obtain⟨bb,oo,ha,hE⟩:=entAt (HR.mono_below HB.out) hke;have HX:=h_ (HLE _ (List.getElem_mem hke));have HTK:Hid ((ents es).take (k+1)=(ents es).take k++[es[k].1]):=by
    show _=_
    rw[List.take_succ_eq_append_getElem hkl]
    congr 2
    exact List.getElem_map _
   subst ha;generalize es[k]=x at hE HX HTK;obtain⟨⟨x0,x1,x2,x3,x4⟩,⟨q0,q1⟩⟩:=x;obtain⟨j0,j1,j2,j3,j4⟩:=hE;simp only at j0 j1 j2 j3 j4 HX HTK;have hx4:=HX.2;have HXR:=h_ (HX.1.below HB.out);have i1:(0:Int)≤(k:Int):=o_;have i2:(k:Int)<(n:Int):=o_;have hd:decide (k<n)=true:= decide_eq_true hlt;have hbb:bb< wr.heap.size:=World.block_lt_of_cell? wr _ j4;clear hke hkl HX;go_wp2_with(first|(have hgq:=HRY;clear hgq;at_builtin;refine wpList_nearE el_ent rfl (.tmp 26) (.tmp 28) rfl w.heap.size a1 fs.length c1 (fs.flatMap cellsRw) rfl ((canNext HC.out HWB.out).alloc _) (some ⟨w6.heap.size,0,none⟩) 1 1 [.int .i64 x0,.int .i8 x1,.int .i64 x2,B x3,.slice a6 x4.length c6] rfl rfl (by rw[←HSZ.out];exact Row.new _ _ _ _) (by simp[Value.oneCell']) o_ (Nat.le_trans hsz (Nat.le_trans HWB.size (by simp))) ?_;intro a8 c8 w8 hcan8 hg8 hn8;have HCAN8:=h_ hcan8;have HG8:=h_ hg8;have HN8:=h_ hn8;clear hcan8 hg8 hn8)|(at_builtin;refine wpList_can el_bytes rfl (.tmp 17) (.tmp 22) rfl (wr.heap.size+1) none 0 0 [] rfl (Can.nil _ _ _ _) q0 x4.length q1 (x4.map B) rfl (by rw[List.length_map,Nat.mul_one]) (HXR.below (b_.alloc n_ _)) (bytes_one _) o_ (by simp) ?_;intro a6 c6 w6 hcan6 _ hb6 hown6;rw[Nat.zero_add,List.nil_append]at hcan6 hown6;have hbx:Box w6 wr.heap.size [.int .i64 x0,.int .i8 x1,.int .i64 x2,B x3,.slice q0 x4.length q1]:=(Box.of_alloc (w:=wr) (cs:=[.int .i64 x0,.int .i8 x1,.int .i64 x2,B x3,.slice q0 x4.length q1]) (t:=79) b_).below hb6 (Nat.lt_succ_self _);have m0:=hbx.cell (j:=0) rfl;have m1:=hbx.cell (j:=1) rfl;have m2:=hbx.cell (j:=2) rfl;have m3:=hbx.cell (j:=3) rfl;have m4:=hbx.cell (j:=4) rfl;have y4:=hbx.froz (j:=4) (by simp);have HWB:Hid (Below wr.heap.size wr (w6.setCell ⟨wr.heap.size,4,none⟩ (.slice a6 x4.length c6))):=(((Below.refl wr.heap.size wr).alloc n_ _).trans (hb6.mono (Nat.le_succ _))).setCell n_ _;have HSZ:Hid (((w6.setCell ⟨wr.heap.size,4,none⟩ (.slice a6 x4.length c6))).heap.size=w6.heap.size):=by {show _=_;simp};have HOB:Hid (x4≠[]→∀b o s,a6=some ⟨b,o,s⟩→wr.heap.size+ 1≤b):=fun h0 b o s e=>own_block (hown6.1 (List.length_pos_iff.2 h0)) b o s e;have HCP:=h_ (And.intro hcan6.le (hcan6.none d_));have HRY:Hid (RowB (w6.setCell ⟨wr.heap.size,4,none⟩ (.slice a6 x4.length c6)) a6 x4):=rowB_block hcan6.row (fun b o s e _ h0=>Below.heap_setCell _ _ _ _ (fun e2=>by have:=HOB.out h0 b o s e;simp at e2;omega));clear hcan6 hown6 hb6 hbx));go_roundw
   case rel=>
    have hW:Below wr.heap.size wr ((w6.setCell ⟨wr.heap.size,4,none⟩ (.slice a6 x4.length c6)).alloc (.cells #[.int .i64 x0,.int .i8 x1,.int .i64 x2,B x3,.slice a6 x4.length c6] 79)):=HWB.trans (b_.alloc HWB.size _);have hws:=hW.size;have hfa:∀b o s,a8=some ⟨b,o,s⟩→w.heap.size≤ b:=fun b o s e=>by
     rcases HN8.out b o s e with h1|⟨o2,s2,h1⟩
     ·omega
     ·exact(HFA b o2 s2 h1).1
    have hrow:=HCAN8.row;have hap:∀y∈ fs++[((⟨x0,x1,x2,x3,x4⟩,(a6,c6)):RwE)],Ap w8 a8 y:=fun y hy=>by
     rcases List.mem_append.1 hy with hy|hy
     ·exact((HA y hy).below hW n_).grown HG8.out HN8.out
     ·rw[List.mem_singleton]at hy;subst hy;refine Ap.grown (a1:=a1) ⟨HRY.below (b_.alloc n_ _),fun h0 b o s e o' s' e2=> ?_⟩ HG8.out HN8.out;have h1:=HOB.out h0 b o s e;have h2:=(HFA b o' s' e2).2;omega
    have hlt8:∀b o s,a8=some ⟨b,o,s⟩→b< w8.heap.size:=fun b o s e=>by
     rcases hrow with h1|⟨b1,o1,h1,hc⟩
     ·have:=congrArg List.length h1;simp at this
     ·rw[e]at h1;simp only[Option.some.injEq,Addr.mk.injEq]at h1;obtain⟨rfl,rfl,rfl⟩:=h1;exact Row.lt (.inr ⟨b,o,rfl,hc⟩) (by simp)
    exact⟨k+1,fs++[(⟨x0,x1,x2,x3,x4⟩,(a6,c6))],a8,c8,by omega,by go_num,by simp,by simp;omega,(by show ents _=_;rw[HTK.out,←HE.out];exact List.map_append),(by(show Can _ _ _ _ _ _ _ _);rw[List.length_append,List.flatMap_append];exact HCAN8.out),h_ hap,(fun y hy=>by
     rcases List.mem_append.1 hy with hy|hy
     ·exact HNY.out y hy
     ·rw[List.mem_singleton]at hy;subst hy
      exact⟨fun h0 b o s e=>by have:=HOB.out h0 b o s e;omega,by simpa using HCP.1,HCP.2⟩),(fun b o s e=>⟨hfa b o s e,hlt8 b o s e⟩),(HB.trans (hW.mono hsz)).trans (grown_below HG8.out (Nat.le_trans hsz hws) (fun b o s e=>(HFA b o s e).1))⟩
   case measure=>simp [intOf];omega
  ·obtain rfl:k= n:=o_;have hE:ents fs=ents es:=by have:=HE.out;rw[List.take_of_length_le (Nat.le_of_eq HLN.out)]at this;exact this
   have HE2:=h_ hE;clear hE;go_wp2_with fail;go_ret;exact⟨a1,c1,fs,rfl,HE2.out,HC.row,fun y hy=>(HA y hy).row,HB.out,fun _ b o s e=>(HFA b o s e).1,HC.le,HC.capM,HC.none d_,HNY.out⟩
section
variable {P:Program} {e:TypeId} {α:Type} {L:Lay P e α}
theorem flatSet{xs:List α}{k r:Nat}{v:Value}{z:α}(hk:k< xs.length)(hr:r< L.size)(hz:L.cells z=(L.cells xs[k]).set r v):(xs.set k z).flatMap L.cells=(xs.flatMap L.cells).set (k*L.size+ r) v:=by
 have hp:=L.pos;refine List.ext_getElem? fun j=> ?_
 have hjj:j/ L.size*L.size+ j%L.size= j:=by rw[Nat.mul_comm];exact Nat.div_add_mod j L.size
 have hj:j% L.size<L.size:= Nat.mod_lt _ hp;have h1:=L.at (xs.set k z) (k:=j/ L.size) hj;have h2:=L.at xs (k:=j/ L.size) hj;rw[hjj]at h1 h2;rw[h1];by_cases e1:j/ L.size=k
 ·rw[e1,List.getElem?_set_self hk,Option.bind_some,hz];rw[e1,List.getElem?_eq_getElem hk,Option.bind_some]at h2;by_cases e2:j% L.size=r
  ·have hji:k* L.size+r= j:=by rw[←e1,←e2];exact hjj
   have hlt:j< (xs.flatMap L.cells).length:=by
    rw[L.length,←hji];have:=Nat.mul_le_mul_right L.size (Nat.succ_le_of_lt hk);rw[Nat.succ_mul]at this;omega
   rw[e2,hji,List.getElem?_set_self (by rw[L.len];exact hr),List.getElem?_set_self hlt]
  ·rw[List.getElem?_set_ne (fun h=>e2 h.symm),List.getElem?_set_ne (fun h=>e2 (by rw[←h,Nat.mul_comm,Nat.mul_add_mod,Nat.mod_eq_of_lt hr])),h2]
 ·rw[List.getElem?_set_ne (fun h=>e1 h.symm),←h2,List.getElem?_set_ne];intro h;apply e1;rw[←h,Nat.mul_comm,Nat.mul_add_div hp,Nat.div_eq_of_lt hr];rfl
theorem mineBox{w:World}{B g:Nat}{xs:List α}(h:Mine L w B g 0 xs):Box w g (xs.flatMap L.cells):=⟨h.2.1,by rw[L.length];exact h.2.2⟩
end
def RetClE(w:World)(l:List RwE)(n:Nat)(e:Ending)(w':World):Prop:= ∃g c3,e= .returned (.slice (some ⟨g,0,none⟩) n c3)∧w.heap.size≤ g∧Box w' g (l.flatMap cellsRw)∧Below w.heap.size w w'∧n≤ c3∧c3≤ maxLen
theorem cloneBox{w:World}{l:List RwE}{n:Nat}(hn:l.length= n)(h0:0< l.length){e:Ending}{w':World}(h:RetOwnRw w l e w'):RetClE w l n e w':=by
 subst hn;obtain⟨a3,c3,he,-,hcan,hown,-,hb⟩:=h
 obtain⟨g,rfl,hB,-⟩:=own_head (hown h0) (by
  intro h1;have h2:=congrArg List.length h1;rw[layRw.length]at h2;have:layRw.size= 5:=rfl;rw[this]at h2
  simp at h2;omega)
 exact⟨g,c3,he,hB,mineBox (Mine.of_own (hown h0)),hb,hcan.le,hcan.capM⟩
theorem ap_set{w w':World}{g:Nat}{y:RwE}(h:Ap w (some ⟨g,0,none⟩) y)(hb:∀k,k<w.heap.size→ k≠g→ w'.heap[k]? =w.heap[k]?):Ap w' (some ⟨g,0,none⟩) y:=
 ⟨rowB_block h.row (fun b o s e hlt h0=>hb b hlt (fun e2=>by subst e2;exact h.apart h0 b o s e 0 none rfl)),h.apart⟩
theorem copied_new(es:List RwE)(a:Option Addr)(n c:Nat)(w:World)(hn:es.length= n)(hl:n≤ 1000000)(hc:a= none→c= 0)(hnc:n≤ c)(hle:∀y∈ es,RowB w y.2.1 y.1.data∧y.1.data.length≤ 1000000∧y.1.data.length≤ y.2.2∧(y.2.1=none→ y.2.2=0))(hr:Row w a (es.flatMap cellsRw)):
 Calls Tryz.prog 89 #[.slice a n c] w (RetCpN w es):=by
 have HCL:=h_ (cloneRw es a n c w hn (by show n*56≤ _;omega) (by unfold maxLen;omega) hc hnc hr);have HN:=h_ hn;have HLE:=h_ hle;by_cases h0:n= 0
 ·have he:es= []:=List.eq_nil_of_length_eq_zero o_;clear hn hle hr hc hnc HN HLE;subst he h0;go_enter Tryz.func89,Tryz.ntmps89;go_wp2_with(go_at_call 91;((with_reducible refine HCL.out.mono ?_);rintro e w2 ⟨a3,c3,rfl,-,hcn,-,-,hb⟩;have HB2:=h_ hb;have HCC:=h_ (And.intro hcn.capM (hcn.none d_));clear hb hcn));go_loopw [9] (fun i wr=>i= .int .i64 0∧Hid (Below w.heap.size w wr)) (fun _ _=>0)
  case atStart=>exact ⟨rfl,HB2.out⟩
  case round=>
   obtain⟨rfl,HB⟩:=hrel;go_wp2_with fail;go_ret;exact⟨a3,c3,[],rfl,rfl,.inl rfl,(fun y hy=>by cases hy),HB.out,fun h=>absurd rfl h,Nat.zero_le _,HCC.1,HCC.2,fun y hy=>by cases hy⟩
 have HCM:=h_ (HCL.mono (fun _ _ h=>cloneBox hn o_ h));clear hn hle hr hc hnc HCL;go_enter Tryz.func89,Tryz.ntmps89;go_wp2_with(go_at_call 91;((with_reducible refine HCM.out.mono ?_);rintro e w2 ⟨g,c3,rfl,hg,hx,hb,hc3⟩;have HC3:=h_ hc3;clear hc3;have HX2:=h_ hx;have HB2:=h_ hb;have HG:=h_ hg;clear hx hb hg));go_loopw [9] (fun iv wr=>∃(k:Nat) (zs:List RwE),k≤n∧ iv= .int .i64 k∧Hid (zs.length=es.length)∧Hid (ents zs=ents es)∧Hid (∀j (h1:j< zs.length) (h2:j< es.length),k≤j→ zs[j]=es[j])∧Hid (Box wr g (zs.flatMap cellsRw))∧Hid (∀y∈ zs,Ap wr (some ⟨g,0,none⟩) y)∧Hid (∀j (h1:j< zs.length),j<k→ NewY w.heap.size zs[j])∧Hid (Below w.heap.size w wr)) (fun iv _=>n- (intOf iv).toNat)
 case atStart=>exact ⟨0,es,Nat.zero_le _,rfl,rfl,rfl,(fun _ _ _ _=>rfl),HX2.out,(fun y hy=>⟨(HLE y hy).1.below HB2.out,fun h0 b o s e o' s' e2=>by
  simp only[Option.some.injEq,Addr.mk.injEq]at e2;have h1:=(HLE y hy).1;have hne:y.1.data.map B≠[]:=by simpa using h0
  rcases h1 with h1|⟨b1,o1,h1,hc1⟩
  ·exact absurd h1 hne
  ·rw[e]at h1;simp only[Option.some.injEq,Addr.mk.injEq]at h1;obtain⟨rfl,rfl,rfl⟩:=h1;have:=Row.lt (.inr ⟨b,o,rfl,hc1⟩) hne;have:=HG.out
   omega⟩),(fun j _ h=>absurd h (Nat.not_lt_zero _)),HB2.out⟩
 case round=>
  clear HX2 HB2 HCM;obtain⟨k,zs,hk,rfl,HZL,HZE,HZK,HX,HA,HNY,HB⟩:=hrel;by_cases hlt:k< n
  ·have hke:k< es.length:=by rw[HN.out];exact hlt
   have hkz:k< zs.length:=by rw[HZL.out];exact hke
   have hx:=HZK.out k hkz hke n_;have hLE:=HLE.out _ (List.getElem_mem hke);have hAP:=HA.out _ (List.getElem_mem hkz);have hat:∀r,r<5→ wr.cell? ⟨g,k*5+ r,none⟩=(cellsRw zs[k])[r]?:=fun r hr=>by
    have h1:=flatMap_at (cells:=cellsRw) (size:=5) (fun _=>rfl) (xs:=zs) (i:=k) hr;rw[List.getElem?_eq_getElem hkz,Option.bind_some]at h1;have h2:k* 5+r< (zs.flatMap cellsRw).length:=by
     rw[flatMap_len (size:=5) (fun _=>rfl)];omega
    rw[HX.cell (List.getElem?_eq_getElem h2),←h1,List.getElem?_eq_getElem h2]
   have hfl:k* 5+4< (zs.flatMap cellsRw).length:=by
    rw[flatMap_len (size:=5) (fun _=>rfl)];omega
   have j4:=hat 4 d_;have y4:=HX.froz hfl;have HSET:=h_ (fun(v:Value) (z:RwE) (hz:cellsRw z=(cellsRw zs[k]).set 4 v)=>flatSet (L:=layRw) (xs:=zs) (k:=k) (r:=4) (v:=v) (z:=z) hkz d_ hz);have HENT:Hid (∀z: RwE,z.1=zs[k].1→ents (zs.set k z)=ents es):=fun z hz=>by
    rw[←HZE.out];show(zs.set k z).map Prod.fst=zs.map Prod.fst
    rw[List.map_set];refine List.ext_getElem? fun i=> ?_
    rw[List.getElem?_set];by_cases hi:k= i
    ·subst hi;rw[if_pos rfl,if_pos (by rw[List.length_map];exact hkz),List.getElem?_map,List.getElem?_eq_getElem hkz,hz];rfl
    ·rw[if_neg hi]
   rw[←hx]at hLE;have HLX:=h_ hLE;have HAP:=h_ hAP;generalize zs[k]=x at j4 HSET HENT HLX HAP;obtain⟨⟨x0,x1,x2,x3,x4⟩,⟨q0,q1⟩⟩:=x;rw[show(cellsRw ((⟨x0,x1,x2,x3,x4⟩,(q0,q1)):RwE))[4]? =some (.slice q0 x4.length q1)from rfl]at j4;simp only at HLX HAP;have hx4:=HLX.2.1;have HCB:=h_ (cloneB x4 q0 x4.length q1 wr rfl hx4 HLX.2.2.2 HLX.2.2.1 HAP.row);have hgl:g< wr.heap.size:=World.block_lt_of_cell? wr _ j4;have i1:(0:Int)≤(k:Int):=o_;have i2:(k:Int)<(n:Int):=o_;have hd:decide (k<n)=true:= decide_eq_true hlt;have HFL:=h_ hfl;have HKZ:=h_ hkz;clear hat hx hLE hAP hke hkz hfl;go_wp2_with(go_at_call 39;((with_reducible refine HCB.out.mono ?_);rintro e w3 ⟨a6,c6,rfl,hr6,hb6,hl6,hf6⟩;have HF6:=h_ hf6.1;have HP6:=h_ (And.intro hl6 hf6.2);have HR6:=h_ hr6;have HB6:=h_ hb6;have n4:=cell_next hb6 j4;have z4:w3.frozen? ⟨g,k*5+ 4,none⟩=false:= (hb6.frozen (p:=⟨g,k*5+ 4,none⟩) hgl).trans y4;clear hr6 hb6 hf6));go_roundw
   case rel=>
    have hbox:Box (w3.setCell ⟨g,k*5+ 4,none⟩ (.slice a6 x4.length c6)) g ((zs.set k ((⟨x0,x1,x2,x3,x4⟩,(a6,c6)):RwE)).flatMap cellsRw):=by
     have e:=HSET.out (.slice a6 x4.length c6) ((⟨x0,x1,x2,x3,x4⟩,(a6,c6)):RwE) rfl;show Box _ _ ((zs.set k ((⟨x0,x1,x2,x3,x4⟩,(a6,c6)):RwE)).flatMap layRw.cells)
     rw[e];exact(HX.below HB6.out hgl).set (i:=k* 5+4) HFL.out _
    have hkeep:∀q,q<w3.heap.size→ q≠g→ (w3.setCell ⟨g,k*5+ 4,none⟩ (.slice a6 x4.length c6)).heap[q]? =w3.heap[q]?:=fun q _ hq=>Below.heap_setCell _ _ _ _ (fun e=>hq e)
    have hap:∀y∈ zs.set k ((⟨x0,x1,x2,x3,x4⟩,(a6,c6)):RwE),Ap (w3.setCell ⟨g,k*5+ 4,none⟩ (.slice a6 x4.length c6)) (some ⟨g,0,none⟩) y:=fun y hy=>by
     rcases List.mem_or_eq_of_mem_set hy with hy|hy
     ·exact ap_set ((HA y hy).below HB6.out n_) hkeep
     ·subst hy;have hne:∀b o s,x4≠[]→a6= some ⟨b,o,s⟩→b≠ g:=fun b o s h0 e e2=>by have:=HF6.out h0 b o s e;omega
      exact⟨rowB_block HR6.out (fun b o s e hlt h0=>hkeep b hlt (hne b o s h0 e)),fun h0 b o s e o' s' e2=>by
       simp only[Option.some.injEq,Addr.mk.injEq]at e2
       exact hne b o s h0 e e2.1.symm⟩
    exact⟨k+1,zs.set k ((⟨x0,x1,x2,x3,x4⟩,(a6,c6)):RwE),by omega,by go_num,(by show _=_;rw[List.length_set];exact HZL.out),HENT.out _ rfl,(fun j h1 h2 hj=>by rw[List.getElem_set_ne o_];exact HZK.out j (by simpa using h1) h2 o_),hbox,h_ hap,(fun j h1 hj=>by
     by_cases e:j= k
     ·subst e;rw[List.getElem_set_self];exact⟨fun h0 b o s e=>Nat.le_trans HB.size (HF6 h0 b o s e),HP6.out⟩
     ·rw[List.getElem_set_ne (fun h=>e h.symm)]
      exact HNY.out j (by simpa using h1) o_),(HB.trans (HB6.mono HB.size)).setCell HG.out _⟩
   case measure=>simp [intOf];omega
  ·obtain rfl:k= n:=o_;have hd:decide (k<k)=false:= decide_eq_false hlt;go_wp2_with fail;go_ret
   exact⟨some ⟨g,0,none⟩,c3,zs,by rw[HZL.out,HN.out];rfl,HZE.out,.inr ⟨g,0,rfl,fun i hi=>by rw[Nat.zero_add];exact HX.cell (List.getElem?_eq_getElem hi)⟩,fun y hy=>(HA y hy).row,HB.out,fun _ b o s e=>by (simp only[Option.some.injEq,Addr.mk.injEq]at e;rw[←e.1];exact HG.out),by have:=HC3.1;rw[HZL.out,HN.out];exact this,HC3.2,fun h=>(by cases h),fun y hy=>by
    obtain⟨j,hj,rfl⟩:=List.getElem_of_mem hy
    exact HNY.out j hj (by have h1:=HZL.out;have h2:=HN.out;omega)⟩
end Go.Proofs.YtoeofkcpclfnhaaGreat
