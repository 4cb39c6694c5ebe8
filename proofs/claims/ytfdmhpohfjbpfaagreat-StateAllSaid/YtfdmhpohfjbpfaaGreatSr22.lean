import Derived.Test.YtfdmhpohfjbpfaaGreatSr21
set_option linter.unusedVariables false
set_option linter.unusedSimpArgs false
namespace Go.Proofs.YtfdmhpohfjbpfaaGreat
open Go.ChangeShapes Go.WideShapes Go.ChangeAt Go.RowKit
set_option maxRecDepth 100000
set_option maxHeartbeats 16000000
theorem Rs.bY{S:Nat→ Prop}{w w':World}{g c:Nat}{a:Option Addr}{bs:List UInt8}{st:Except Nat Nat}(h:Rs w g a c bs st)(hk:dv S w w')(hs:∀k,S k→Bl g (jU a bs) k):Rs w' g a c bs st:=by
 cases st with
 |ok p=>exact ⟨h.1.bY hk hs,h.2⟩
 |error f=>exact yf.bY h hk hs
theorem Rs.put{w:World}{g c k i:Nat}{a:Option Addr}{bs:List UInt8}{st:Except Nat Nat}{v:Value}(h:Rs w g a c bs st)(hk:Bl g (jU a bs) k):Rs (w.setCell ⟨k,i,none⟩ v) g a c bs st:=h.bY ((dv.refl (fun j=>j= k) w).set _ _ rfl) (fun j e=>by subst e;exact hk)
theorem Rs.new{w:World}{g c:Nat}{a:Option Addr}{bs:List UInt8}{st:Except Nat Nat}(h:Rs w g a c bs st){k:Nat}(hk:w.heap.size≤ k):Bl g (jU a bs) k:=by
 obtain⟨x,y,hb,-⟩:=h.at;exact hb.new hk
theorem Rs.lt{w:World}{g c:Nat}{a:Option Addr}{bs:List UInt8}{st:Except Nat Nat}(h:Rs w g a c bs st):g< w.heap.size:=by
 obtain⟨x,y,hb,-⟩:=h.at;exact hb.box.lt (by simp)
theorem aU.jl{w w':World}{g x:Nat}{cs:List Value}(h:aU w x cs)(ht:dO g g w w')(h0:0< cs.length)(hx:x≠ g):aU w' x cs:=h.bY h0 ht (by have:=h.lt h0;omega)
theorem dO.Qj{w w':World}{g:Nat}{b:Nat}(h:dO g g w w')(hb:b≤ w.heap.size)(hg:b≤ g):Below b w w':=dv.Qj h hb (fun k e=>by omega)
def Nu(w:World)(a:Option Addr)(c:Nat)(bs:List UInt8)(e:Ending)(w':World):Prop:= e= .returned (.tuple #[.pointer (some ⟨w.heap.size,0,none⟩),.int .i64 0])∧Rs w' w.heap.size a c bs (.ok 0)∧Below w.heap.size w w'
theorem KR(a:Option Addr)(c:Nat)(bs:List UInt8)(w:World)(hr:iu w a bs)(hc:bs.length≤ c)(hl:bs.length≤ 1048576):
 Calls Tryz.prog 32 #[.slice a bs.length c] w (Nu w a c bs):=by
 have hB:Below w.heap.size w (w.alloc (.cells (uk a bs.length c 0 (-1)) 113)):=ah b_;have fI:aU (w.alloc (.cells (uk a bs.length c 0 (-1)) 113)) w.heap.size (uk a bs.length c (0:Nat) (-1)):=aU.aR (cs:=(uk a bs.length c 0 (-1))) b_;have LD:∀b o s,jU a bs=some ⟨b,o,s⟩→b< w.heap.size:=fun b o s h=>by
  unfold jU at h
  split at h
  ·cases h
  ·rename_i h0
   rcases hr with h1|⟨b1,o1,rfl,h1⟩
   ·exact absurd (by simpa using h1) h0
   ·have:=Row.lt (.inr ⟨b1,o1,rfl,h1⟩) (by simpa using h0);simp only[Option.some.injEq,Addr.mk.injEq]at h;omega
 have HR:=h_ (And.intro (⟨⟨fI,hr.below hB,hc,LD⟩,by omega⟩:Rs _ w.heap.size a c bs (.ok 0)) hB);clear hr LD fI hB;go_enter Tryz.func32,Tryz.ntmps32;go_wp2;go_ret2;exact⟨rfl,HR.1,HR.2⟩
def Ur(w:World)(g:Nat)(bs:List UInt8)(st:Except Nat Nat)(e:Ending)(w':World):Prop:=
 dO g g w w'∧((∃f: Nat,e= .returned (.tuple (Kf f 50))∧(st= .error f∨(st= .ok f∧f< bs.length)))∨(e= .returned (.tuple zi2)∧∃p,st= .ok p∧¬p< bs.length))
theorem QZ(g c:Nat)(a:Option Addr)(bs:List UInt8)(st:Except Nat Nat)(w:World)(hl:bs.length≤ 2000000)(h:Rs w g a c bs st):
 Calls Tryz.prog 37 #[.pointer (some ⟨g,0,none⟩)] w (Ur w g bs st):=by
 cases st with
 |error f=>
  have k0:=h.box.cell (j:=0) rfl;have k1:=h.box.cell (j:=1) rfl;have k2:=h.box.cell (j:=2) rfl;have d1:decide ((f:Int)<0)=false:= decide_eq_false o_;have HQ:=h_ (fun n=>(below_drewN (Below.refl w.heap.size w) n));clear h;go_enter Tryz.func37,Tryz.ntmps37;go_upto_region 1 with(fail);go_quiet (fail);go_wp2;go_ret2;exact⟨dO.below (HQ _),.inl ⟨f,rfl,.inl rfl⟩⟩
 |ok p=>
  obtain⟨hb,hp⟩:=h;have k0:=hb.box.cell (j:=0) rfl;have k1:=hb.box.cell (j:=1) rfl;have k2:=hb.box.cell (j:=2) rfl;have z2:=hb.box.cu (j:=2) (by simp);have HQ:=h_ (fun n=>(below_drewN (Below.refl w.heap.size w) n));have d1:decide ((-1: Int)<0)=true:= rfl;by_cases hlt:p< bs.length
  ·have d2:decide (p<bs.length)=true:= decide_eq_true hlt;clear hb;go_enter Tryz.func37,Tryz.ntmps37;go_upto_region 1 with(fail);go_quiet (fail);go_wp2;go_ret2;exact⟨(dO.below (HQ _)).set _ _ (.inl rfl),.inl ⟨p,rfl,.inr ⟨rfl,hlt⟩⟩⟩
  ·have d2:decide (p<bs.length)=false:= decide_eq_false hlt;clear hb;go_enter Tryz.func37,Tryz.ntmps37;go_upto_region 1 with(fail);go_quiet (fail);go_wp2;go_ret2;exact⟨dO.below (HQ _),.inr ⟨rfl,p,rfl,hlt⟩⟩
theorem O9{α:Type}{z x:α}{P:List UInt8→Nat→ kQ α}{bs:List UInt8}{st:Except Nat Nat}{f:Nat}(h:cZ P bs (.ok 0) x st)(hl:bs.length≤ 1048576)(he:st= .error f∨(st= .ok f∧f< bs.length)):lT z P bs=(z,f,50):=by
 unfold cZ at h;unfold lT;rw[if_neg o_];rcases he with rfl|⟨rfl,hf⟩
 ·cases hp:P bs 0 with
  |ok y=>obtain ⟨v,q⟩:=y;simp[hp]at h
  |error e=>simp only[hp]at h;cases h;rfl
 ·cases hp:P bs 0 with
  |ok y=>
   obtain⟨v,q⟩:=y;simp only[hp]at h;obtain⟨rfl,hq⟩:=h;cases hq
   show(if _ then _ else _)=_
   rw[if_pos hf]
  |error e=>simp [hp]at h
theorem RN{α:Type}{z x:α}{P:List UInt8→Nat→ kQ α}{bs:List UInt8}{p:Nat}(h:cZ P bs (.ok 0) x (.ok p))(hl:bs.length≤ 1048576)(he:¬p< bs.length):lT z P bs=(x,0,0):=by
 unfold cZ at h;unfold lT;rw[if_neg o_];cases hp:P bs 0 with
 |ok y=>
  obtain⟨v,q⟩:=y;simp only[hp]at h;obtain⟨rfl,hq⟩:=h;cases hq
  show(if _ then _ else _)=_
  rw[if_neg he]
 |error e=>simp [hp]at h
theorem cZ.next{α β:Type}{P:List UInt8→Nat→ kQ α}{F:α→ List UInt8→Nat→ kQ β}{bs:List UInt8}{st qB:Except Nat Nat}{v:α}{R:β→ Except Nat Nat→Prop}(hc:∀y st',cZ (fun l p=>cy (P l p) fun a q=>F a l q) bs st y st'→R y st')(hk:cZ P bs st v qB):
 ∀y st',cZ (F v) bs qB y st'→R y st':=fun y st' h=>hc y st' (cZ.bind hk h)
theorem Dk{α:Type}{one:List UInt8→Nat→ kQ α}{l:List UInt8}:∀ {k m p f:Nat},ej one k l p= .error f→k≤ m→ej one m l p= .error f
 |0,_,_,_,h,_=>by cases h
 |k+ 1,0,_,_,_,hm=>absurd hm o_
 |k+ 1,m+1,p,f,h,hm=>by
  simp only[ej]at h ⊢;cases ho:one l p with
  |error e=>rw [ho]at h;exact h
  |ok y=>
   obtain⟨x,q⟩:=y;rw[ho]at h;simp only[cy]at h ⊢;cases ht:ej one k l q with
   |error e=>
    rw[ht]at h;simp only[Except.error.injEq]at h;subst h;rw[Dk ht (by omega:k≤ m)]
   |ok z=>rw [ht]at h;cases h
theorem cZ.snoc{α:Type}{one:List UInt8→Nat→ kQ α}{bs:List UInt8}{st qB WQ:Except Nat Nat}{k:Nat}{xs:List α}{v:α}(h:cZ (ej one k) bs st xs qB)(h2:cZ one bs qB v WQ):cZ (ej one (k+1)) bs st (xs++[v]) WQ:=by
 cases st with
 |error f=>
  obtain rfl:qB= .error f:=h;exact h2
 |ok p=>
  cases ht:ej one k bs p with
  |error f=>
   unfold cZ at h;simp only[ht]at h;subst h;obtain rfl:WQ= .error f:=h2;exact cZ.bad _ (Dk ht (Nat.le_succ k))
  |ok y=>
   obtain⟨ys,q⟩:=y;unfold cZ at h;simp only[ht]at h;obtain⟨rfl,rfl⟩:=h;cases ho:one bs q with
   |error f=>
    unfold cZ at h2;simp only[ho]at h2;subst h2;exact cZ.bad _ (qd ht ho (Nat.lt_succ_self k))
   |ok z=>
    obtain⟨x,q2⟩:=z;unfold cZ at h2;simp only[ho]at h2;obtain⟨rfl,rfl⟩:=h2;exact cZ.ok (qf ht ho)
theorem UB{bs:List UInt8}{st st':Except Nat Nat}{v size:Nat}(h:cZ (countP size) bs st v st')(hb:bs.length≤ 250000*size)(hv:(∃f,st'= .error f)→v= 0):v≤ 250000:=by
 cases st with
 |error f=>have:= hv ⟨f,h⟩;omega
 |ok p=>
  cases hc:countP size bs p with
  |error f=>unfold cZ at h;simp only[hc]at h;have:=hv ⟨f,h⟩;omega
  |ok y=>
   obtain⟨x,q⟩:=y;unfold cZ at h;simp only[hc]at h;obtain⟨rfl,-⟩:=h;have h1:=count_le hc;have h2:(bs.length-q)/size≤ bs.length/size:= Nat.div_le_div_right (Nat.sub_le _ _);have h3:bs.length/ size≤250000:= by
    by_cases h0:size= 0
    ·subst h0;simp
    ·exact Nat.div_le_of_le_mul (by rw[Nat.mul_comm];exact hb)
   omega
structure Lr(w w':World)(g X ox:Nat)(a:Option Addr)(c:Nat)(bs:List UInt8)(st:Except Nat Nat)(cs:List Value)(T:TypeId)(size:Nat)(a1:Option Addr)(n c1:Nat)(xs:List Value):Prop where
 rs:Rs w' g a c bs st
 jl:dO g X w w'
 box:aU w' X (cs.set ox (.slice a1 n c1))
 can:Can w' w.heap.size T size a1 n c1 xs
 lY:∀b o s,a1=some ⟨b,o,s⟩→w.heap.size≤ b∧b< w'.heap.size
 gl:g< w.heap.size
 xl:X< w.heap.size
 off:Bl g (jU a bs) X
 Vk:∀k,w.heap.size≤k→ Bl g (jU a bs) k
 ox:ox< cs.length
theorem Lr.one{w wr w2:World}{g X ox c T size n c1:Nat}{a a1:Option Addr}{bs:List UInt8}{st st':Except Nat Nat}{cs xs:List Value}(h:Lr w wr g X ox a c bs st cs T size a1 n c1 xs)(ht:dO g g wr w2)(hs:Rs w2 g a c bs st'):Lr w w2 g X ox a c bs st' cs T size a1 n c1 xs:=by
 have hsz:=h.jl.size;have hg:=h.gl;have hm:cx w.heap.size wr.heap.size wr w2:=⟨ht.size,fun k h1 h2=>ht.block k h2 o_⟩;exact⟨hs,dv.trans h.jl (ht.mono fun k _ e=>by rcases e with e|e| e;exact .inl e;exact .inl e;exact .inr (.inr o_)),h.box.bY (by rw[List.length_set];have:=h.ox;omega) ht (by have:=h.off.ne;have:=h.xl;omega),nD h.can hm (fun b o s e=> .inl (h.lY b o s e).1) n_ n_,fun b o s e=>⟨(h.lY b o s e).1,by have:=(h.lY b o s e).2;have:=ht.size;omega⟩,hg,h.xl,h.off,h.Vk,h.ox⟩
theorem Lr.below{w wr w2:World}{g X ox c T size n c1:Nat}{a a1:Option Addr}{bs:List UInt8}{st:Except Nat Nat}{cs xs:List Value}(h:Lr w wr g X ox a c bs st cs T size a1 n c1 xs)(hb:Below wr.heap.size wr w2):Lr w w2 g X ox a c bs st cs T size a1 n c1 xs:=h.one (dO.below hb) (h.rs.below hb)
theorem Lr.push{w w2 W0 w3:World}{g X ox c T size n c1 c2:Nat}{a a1 a2:Option Addr}{bs:List UInt8}{st:Except Nat Nat}{cs xs ns:List Value}(h:Lr w w2 g X ox a c bs st cs T size a1 n c1 xs)(hb:Below w2.heap.size w2 W0)(di:Can w3 w.heap.size T size a2 (n+1) c2 (xs++ns))(hg:W0.grownBy w3 (Value.slice a1 n c1).ownBlock)(hown:∀b o s,a2=some ⟨b,o,s⟩→w.heap.size≤ b)(hlt:∀b o s,a2=some ⟨b,o,s⟩→b< w3.heap.size):
 Lr w (w3.setCell ⟨X,ox,none⟩ (.slice a2 (n+1) c2)) g X ox a c bs st cs T size a2 (n+1) c2 (xs++ns)∧aU w3 X (cs.set ox (.slice a1 n c1))∧(∀k,k<w2.heap.size→ (∀o s,a1≠some ⟨k,o,s⟩)→w3.heap[k]? =w2.heap[k]?):=by
 have hs:=h.jl.size;have hgl:=h.gl;have hx:=h.xl;have ow:∀k,(∀o s,a1≠some ⟨k,o,s⟩)→some k≠(Value.slice a1 n c1).ownBlock:=fun k hk e=>by
  cases a1 with
  |none=> simp[Value.ownBlock]at e
  |some ad=>
   obtain⟨y,u,v⟩:=ad;simp[Value.ownBlock]at e;subst e;exact hk u v rfl
 have FP:∀k,k<w2.heap.size→ (∀o s,a1≠some ⟨k,o,s⟩)→w3.heap[k]? =w2.heap[k]?:=fun k hk hne=>by
  rw[hg.block k (Nat.lt_of_lt_of_le hk hb.size) (ow k hne),hb.block k hk]
 have hks:dv (fun k=>w.heap.size≤ k) w2 w3:=⟨hg.os.trans hb.os,hg.tape.trans hb.tape,hg.output.trans hb.output,Nat.le_trans hb.size hg.size,fun k hk hn=>FP k hk (fun o s e=>hn (h.lY k o s e).1)⟩;have fI:aU w3 X (cs.set ox (.slice a1 n c1)):=h.box.bY (by rw[List.length_set];have:=h.ox;omega) hks o_;have sM:=fI.set (i:=ox) (by rw[List.length_set];exact h.ox) (.slice a2 (n+1) c2);rw[List.set_set]at sM;refine⟨⟨(h.rs.bY hks h.Vk).put h.off,?_,sM,?_,fun b o s e=>⟨hown b o s e,by have:=hlt b o s e;simpa using this⟩,hgl,hx,h.off,h.Vk,h.ox⟩,fI,FP⟩
 ·exact(dv.trans h.jl (hks.mono fun k _ e=> .inr (.inr e))).set _ _ (.inr (.inl rfl))
 ·exact nD di ((cx.refl w.heap.size w3.heap.size w3).setCell ⟨X,ox,none⟩ _ (.inl hx)) (fun b o s e=> .inl (hown b o s e)) n_ n_
def JK(w:World)(x:iD)(e:Ending)(w':World):Prop:= ∃px: tF,e= .returned (fw x px)∧iu w' px.1 x.data∧x.data.length≤ px.2∧Below w.heap.size w w'
theorem RR{w w':World}{a:Option Addr}{bs:List UInt8}{g:Nat}(h:iu w a bs)(h2:2≤ bs.length)(hb:ct w g [.int .i64 0,.int .i8 0,.int .i64 0,.int .u8 0,.slice none 0 0])(hw:dt g w w'):iu w' a bs:=by
 rcases h with h|⟨b,o,rfl,hc⟩
 ·exact .inl h
 ·have hne:b≠ g:=by
   intro e;subst e;have c0:=hc 0 (by simp;omega);have c1:=hc 1 (by simp;omega);rw[hb.JS]at c0 c1;rw[List.getElem_map]at c0 c1;unfold B at c0 c1
   match o,c0,c1 with
   |0,c0,_=>simp at c0
   |1,c0,_=>simp at c0
   |2,c0,_=>simp at c0
   |3,_,c1=>simp at c1
   |4,c0,_=>simp at c0
   |n+ 5,c0,_=>simp at c0
  exact .inr ⟨b,o,rfl,fun i hi=>(World.cell?_of_block (hw.bY b hne)).trans (hc i hi)⟩
theorem QY(c:cR):2≤ (gK c).length:=by unfold gK;simp only[List.length_append,gP,List.length_cons];omega
theorem DT(st:Int)(c:cR)(w:World)(hc:c.bp= [])(hg:zw c):
 Calls Tryz.prog 19 #[.int .i64 st,im c (none,0)] w (JK w ⟨1,2,st,0,gK c⟩):=by
 have ZE:Hid (∀w',Calls Tryz.prog 38 #[im c (none,0)] w' (Nt w' (gK c))):=h_ (fun w'=>BD c (none,0) w' ⟨by rw[hc];exact⟨Row.nil _ _,fun h=>absurd rfl h⟩⟩ hg);have aF:Hid (Below w.heap.size w ((w.alloc (.cells (bO c.kind c.aA c.number c.aC c.aK c.aq c.ak c.aM c.bW c.size c.bN c.closed none c.bp.length 0) 54)).alloc (.cells #[.int .i64 0,.int .i8 0,.int .i64 0,.int .u8 0,.slice none 0 0] 45))):=ah (ah b_);have cm:Hid (ct ((w.alloc (.cells (bO c.kind c.aA c.number c.aC c.aK c.aq c.ak c.aM c.bW c.size c.bN c.closed none c.bp.length 0) 54)).alloc (.cells #[.int .i64 0,.int .i8 0,.int .i64 0,.int .u8 0,.slice none 0 0] 45)) w.heap.size (jG c (none,0))):=ct.aR (w:=w) (ah b_);have dL:Hid (ct ((w.alloc (.cells (bO c.kind c.aA c.number c.aC c.aK c.aq c.ak c.aM c.bW c.size c.bN c.closed none c.bp.length 0) 54)).alloc (.cells #[.int .i64 0,.int .i8 0,.int .i64 0,.int .u8 0,.slice none 0 0] 45)) (w.heap.size+1) [.int .i64 0,.int .i8 0,.int .i64 0,.int .u8 0,.slice none 0 0]):=by
  have:=ct.new (w.alloc (.cells (bO c.kind c.aA c.number c.aC c.aK c.aq c.ak c.aM c.bW c.size c.bN c.closed none c.bp.length 0) 54)) [.int .i64 0,.int .i8 0,.int .i64 0,.int .u8 0,.slice none 0 0] 45;rw[World.size_alloc]at this;exact this
 unfold im at ZE ⊢;have H2:=h_ (QY c);generalize gK c=bs at ZE H2 ⊢;clear hc hg;go_enter Tryz.func19,Tryz.ntmps19;go_wp2_with(first|((with_reducible refine bC 54 (.tmp 3) ?_);refine aa wN rfl (.tmp 3) rfl w.heap.size 0 rfl (c,(none,0)) (.agg (bO c.kind c.aA c.number c.aC c.aK c.aq c.ak c.aM c.bW c.size c.bN c.closed none c.bp.length 0)) rfl cm.box.range ?_)|(go_at_call 38;((with_reducible refine(ZE.out _).mono ?_);rintro e w2 ⟨a,k,rfl,h1,hb,h2⟩;have tz:=h_ (And.intro h1 h2);replace aF:=h_ (aF.trans (hb.mono aF.size));replace dL:=h_ (dL.next hb);clear hb h1 h2 cm ZE))|((with_reducible refine aO 45 (.tmp 4) (.tmp 8) ?_);refine au rF rfl (.tmp 4) (.tmp 8) rfl (w.heap.size+1) (⟨1,2,st,0,bs⟩,(a,k)) _ rfl rfl dL.out rfl ?_;intro w3 hx hw;have HX:=h_ hx;have HW:=h_ hw;have po:=h_ (RR tz.1 H2.out dL.out hw);clear hx hw));have z0:=HX.box.cell (j:=0) rfl;have z1:=HX.box.cell (j:=1) rfl;have z2:=HX.box.cell (j:=2) rfl;have z3:=HX.box.cell (j:=3) rfl;have z4:=HX.box.cell (j:=4) rfl;simp only at z0 z1 z2 z3 z4;refine bodyPost_ret (v:=fw ⟨1,2,st,0,bs⟩ (a,k)) (by simp[results,Tryz.results19,fw,go_sem,z0,z1,z2,z3,z4]) rfl ?_;have hb:=HW.below (w.heap.size+1) n_;have hsz:=dL.lt;exact⟨(a,k),rfl,po.out,tz.2,aF.trans (hb.mono o_)⟩
def Pv(ts:List aj)(id:Int):Int:= match ts.find? (fun x=>x.id== id)with|some t=>t.bucket| none=>0
theorem Pw(x:aj)(g:Nat)(id:Int)(w:World)(hg:ct w g [.int .i64 id]):
 Calls Tryz.prog 40 #[x.agg,.pointer (some ⟨g,0,none⟩)] w fun e w'=>e= .returned (.bool (x.id==id))∧Below w.heap.size w w':=by
 obtain⟨i,r,b,u,gn⟩:=x;have HB:Hid (Below w.heap.size w (w.alloc (.cells (gW i r b u gn) 75))):=ah b_;have hgb:=(hg.next HB.out).box.cell (j:=0) rfl;clear hg;go_enter Tryz.func40,Tryz.ntmps40;go_wp2;go_returns;exact⟨rfl,HB.out⟩
theorem La(args:Array Value)(w:World):(callFunc 40 args).run Tryz.prog w= .ok (.enter 40 args) w:=k_
theorem R9(ts:List aj)(id:Int):(iL (fun x=>x.id== id) ts= -1∧ Pv ts id=0)∨∃k,∃hk: k<ts.length,iL (fun x=>x.id== id) ts=k∧ Pv ts id=ts[k].bucket:=by
 unfold Pv;rcases wK (fun x:aj=> x.id==id) ts with⟨h1,h2⟩|⟨k,hk,h1,h2⟩
 ·exact .inl ⟨h1,by rw[h2]⟩
 ·exact .inr ⟨k,hk,h1,by rw[h2]⟩
theorem KT{w:World}{b o:Nat}{t:aj}(h:w.rangeAt b o (aT.cells t)):w.cell? ⟨b,o,none⟩=some (.int .i64 t.id)∧w.cell? ⟨b,o+1,none⟩=some (.int .i64 t.aK)∧w.cell? ⟨b,o+2,none⟩=some (.int .i64 t.aq)∧w.cell? ⟨b,o+3,none⟩=some (.int .i64 t.bucket)∧w.cell? ⟨b,o+4,none⟩=some (.bool t.gone):=⟨h 0 _ rfl,h 1 _ rfl,h 2 _ rfl,h 3 _ rfl,h 4 _ rfl⟩
theorem Jx(s:St)(r:Raw)(B:Nat)(id:Int)(w:World)(h:aX w B r s)(hf:Fits s.ai)(cC:s.ax.length≤ 900)(hl2:s.ai.length≤ 900)(hid:(Lit.int .i64 id).wf=true):
 Calls Tryz.prog 20 #[r.agg,.int .i64 id] w fun e w'=>e= .returned (.tuple (Kf (Pv s.ax id) (bV s.ai id)))∧Below w.heap.size w w':=by
 have D3:∀(fn:Fn) (first cap:Array Value) (w:World),(Instr.makeFunc fn first cap).run Tryz.prog w= .ok (.func fn first cap) w:=fun _ _ _ _=>rfl
 have Hp:=h_ (fun w' hs'=>yS s r B id w' hs' hf hl2 hid);have HS:=h_ h;have hn:=h.cD.len;have HTI:=h_ (R9 s.ax id);have Kp:Hid (∀(w':World) (g:Nat),Below w.heap.size w w'→ct w' g [.int .i64 id]→Calls Tryz.prog 39 #[.slice r.cD.a r.cD.n r.cD.c,.func (.func 40) #[] #[.pointer (some ⟨g,0,none⟩)]] w' fun e w''=>e= .returned (.int .i64 (iL (fun x=>x.id== id) s.ax))∧Below w'.heap.size w' w''):=
  h_ (fun w' g hb hg=>mA s.ax r.cD.a r.cD.n r.cD.c _ _ (fun x=>x.id== id) w' hn (by unfold maxLen;omega) (h.cD.row.below hb) La (fun x _ w'' hb2=>Pw x g id w'' (hg.next hb2)))
 have Ug:=h_ (fun(w':World) (hb:Below w.heap.size w w')=>h.cD.row.below hb);generalize iL (fun x=>x.id== id) s.ax=ix at HTI Kp;generalize Pv s.ax id=res at HTI ⊢;generalize bV s.ai id=ou at Hp ⊢;obtain⟨term,ag,next,⟨a1,n1,c1⟩,⟨a2,n2,c2⟩,⟨a3,n3,c3⟩,⟨a4,n4,c4⟩⟩:=r;simp only at hn;subst hn;have aF:Hid (Below w.heap.size w ((w.alloc (.cells (aw term ag next a1 s.ax.length c1 a2 n2 c2 a3 n3 c3 a4 n4 c4) 27)).alloc (.cells #[.int .i64 id] 3))):=ah (ah b_);have aQ:Hid (ct ((w.alloc (.cells (aw term ag next a1 s.ax.length c1 a2 n2 c2 a3 n3 c3 a4 n4 c4) 27)).alloc (.cells #[.int .i64 id] 3)) w.heap.size (Raw.cells ⟨term,ag,next,⟨a1,s.ax.length,c1⟩,⟨a2,n2,c2⟩,⟨a3,n3,c3⟩,⟨a4,n4,c4⟩⟩)):=ct.aR (w:=w) (ah b_);have Xd:Hid (ct ((w.alloc (.cells (aw term ag next a1 s.ax.length c1 a2 n2 c2 a3 n3 c3 a4 n4 c4) 27)).alloc (.cells #[.int .i64 id] 3)) (w.heap.size+1) [.int .i64 id]):=by
  have:=ct.new (w.alloc (.cells (aw term ag next a1 s.ax.length c1 a2 n2 c2 a3 n3 c3 a4 n4 c4) 27)) [.int .i64 id] 3;rw[World.size_alloc]at this;exact this
 clear h hf hid;go_enter Tryz.func20,Tryz.ntmps20;go_upto_region 1 with fail;obtain⟨w1,hw1⟩:∃y,y=((w.alloc (.cells (aw term ag next a1 s.ax.length c1 a2 n2 c2 a3 n3 c3 a4 n4 c4) 27)).alloc (.cells #[.int .i64 id] 3)):=⟨_,rfl⟩;rw[←hw1]at aF aQ Xd ⊢;clear hw1;have g3:=aQ.box.cell (j:=3) rfl;go_upto_region 2 with(go_at_call 39;((with_reducible refine(Kp.out w1 _ aF.out Xd.out).mono ?_);rintro e w2 ⟨rfl,hb⟩;replace aF:=h_ (aF.trans (hb.mono aF.size));replace aQ:=h_ (aQ.next hb);replace Xd:=h_ (Xd.next hb);clear hb Kp g3));(try simp only[Act.put]);have g3:=aQ.box.cell (j:=3) rfl;have i0:=Xd.box.cell (j:=0) rfl;rcases HTI.out with⟨rfl,rfl⟩|⟨k,hk,rfl,rfl⟩
 ·go_wp2_with(first|((with_reducible refine bC 27 (.tmp 2) ?_);refine aa aG rfl (.tmp 2) rfl w.heap.size 0 rfl ⟨term,ag,next,⟨a1,s.ax.length,c1⟩,⟨a2,n2,c2⟩,⟨a3,n3,c3⟩,⟨a4,n4,c4⟩⟩ (Raw.agg ⟨term,ag,next,⟨a1,s.ax.length,c1⟩,⟨a2,n2,c2⟩,⟨a3,n3,c3⟩,⟨a4,n4,c4⟩⟩) rfl aQ.box.range ?_)|(go_at_call 41;((with_reducible refine(Hp.out w2 (HS.out.below aF.out)).mono ?_);rintro e w3 ⟨rfl,hb⟩;replace aF:=h_ (aF.trans (hb.mono aF.size));clear hb)));go_returns;exact⟨rfl,aF.out⟩
 ·obtain⟨b,o,rfl,hcs⟩:=bF.range (Ug w2 aF.out) hk;have gB:=h_ (hcs w2 b_);clear hcs;generalize heq:s.ax[k]=t at gB;have HEQ:=h_ heq;clear heq;obtain⟨i,r,bu,u,gn⟩:=t;obtain⟨y0,y1,y2,y3,y4⟩:=KT gB.out;clear y0 y1 y2 y4;replace y3:w2.cell? ⟨b,o+k* 5+3,none⟩=some (.int .i64 u):=y3;have EO:decide ((0:Int)≤(k:Int))=true:= decide_eq_true o_;go_wp2_with(first|((with_reducible refine bC 27 (.tmp 2) ?_);refine aa aG rfl (.tmp 2) rfl w.heap.size 0 rfl ⟨term,ag,next,⟨some ⟨b,o,none⟩,s.ax.length,c1⟩,⟨a2,n2,c2⟩,⟨a3,n3,c3⟩,⟨a4,n4,c4⟩⟩ (Raw.agg ⟨term,ag,next,⟨some ⟨b,o,none⟩,s.ax.length,c1⟩,⟨a2,n2,c2⟩,⟨a3,n3,c3⟩,⟨a4,n4,c4⟩⟩) rfl aQ.box.range ?_)|(go_at_call 41;((with_reducible refine(Hp.out w2 (HS.out.below aF.out)).mono ?_);rintro e w3 ⟨rfl,hb⟩;replace aF:=h_ (aF.trans (hb.mono aF.size));clear hb)));go_returns;exact⟨by rw[HEQ.out];rfl,aF.out⟩
def LV:Raw:= ⟨0,0,1,⟨none,0,0⟩,⟨none,0,0⟩,⟨none,0,0⟩,⟨none,0,0⟩⟩
theorem Rz(w:World):aX w 0 LV sN:=
 ⟨rfl,rfl,rfl,⟨rfl,Nat.le_refl _,fun _=>rfl,cg.nil _ _,.inl rfl⟩,⟨rfl,Nat.le_refl _,fun _=>rfl,cg.nil _ _,.inl rfl⟩,⟨rfl,Nat.le_refl _,fun _=>rfl,cg.nil _ _,.inl rfl⟩,
  ⟨⟨rfl,Nat.le_refl _,fun _=>rfl,cg.nil _ _,.inl rfl⟩,fun h=>absurd h o_,fun h=>absurd h o_⟩⟩
theorem Ef(w:World):Calls Tryz.prog 10 #[] w (mi w 0 sN):=by
 have HZ:Hid (ct (w.alloc (.cells aS 27)) w.heap.size (Raw.cells ⟨0,0,0,⟨none,0,0⟩,⟨none,0,0⟩,⟨none,0,0⟩,⟨none,0,0⟩⟩)):=ct.new w _ _;have HB:Hid (Below w.heap.size w (w.alloc (.cells aS 27))):=b_.alloc n_ _;go_enter Tryz.func10,Tryz.ntmps10;go_wp2_with((with_reducible refine aO 27 (.tmp 0) (.tmp 1) ?_);refine au aG rfl (.tmp 0) (.tmp 1) rfl w.heap.size LV _ rfl rfl HZ.out rfl ?_;intro w2 hx hw;have HX:=h_ hx;have HW:=h_ hw;clear hx hw);obtain⟨k0,k1,k2,k3,k4,k5,k6⟩:=bP HX.box.range;simp only[LV]at k0 k1 k2 k3 k4 k5 k6;refine bodyPost_ret (v:=Raw.agg LV) (by simp[results,Tryz.results10,LV,go_sem,k0,k1,k2,k3,k4,k5,k6]) rfl ?_;exact⟨LV,rfl,Rz _,HB.trans (HW.below _ n_)⟩
end Go.Proofs.YtfdmhpohfjbpfaaGreat
