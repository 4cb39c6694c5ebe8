import Derived.Test.YtoeofkcpclfnhaaGreatSrNdAfter
set_option linter.unusedVariables false
set_option linter.unusedSimpArgs false
namespace Go.Proofs.YtoeofkcpclfnhaaGreat.Raf
set_option maxHeartbeats 16000000
variable {x:Sys WEnt} {T N k:Nat} {n:RN}
theorem inSet_or(a b j:Nat)(h:inSet (a ||| b) j=true):inSet a j=true∨ inSet b j=true:= by
 unfold inSet at h ⊢;have e:∀s: Nat,s/2^ (j-1)%2= 1↔s.testBit (j-1)=true:= fun s=>by
  rw[Nat.testBit_eq_decide_div_mod_eq];simp
 have h':=of_decide_eq_true h;rw[e,Nat.testBit_or,Bool.or_eq_true]at h';obtain⟨h1,h2,h3⟩:=h';rcases h3 with h3|h3
 ·exact .inl (decide_eq_true ⟨h1,h2,(e a).2 h3⟩)
 ·exact .inr (decide_eq_true ⟨h1,h2,(e b).2 h3⟩)
theorem to_yes(h:Ok x T N)(r:Rep n (x.ns k))(hs:n.self= k)(hr:n.role= 1){m:WMsg}(hm:OkM x m)(hk:m.kind= 2)(ht:m.term= n.hT)(ho:m.ok= true)(hd:m.dst= n.self):
 To x T N k {n with yes:=n.yes ||| bitOf m.src} []:=by
 obtain⟨src,dst,e1,e2,a1,a2,a3,a4,a5,_,h2,_⟩:=hm;obtain⟨l,hl⟩:=h2 hk ho;have hdk:dst= k:=o_;subst hdk;have hrn:(x.ns dst).role=1:= r.role_nat hr;obtain⟨k1,k2,k3,k4,k5⟩:=h.inv.cand dst hrn;refine⟨{x with ns:=upd x.ns dst {x.ns dst with yes:=fun j=>inSet (n.yes ||| bitOf m.src).toNat j}},⟨h.inv.node dst _ rfl (Int.le_refl _) (h.inv.now dst) (fun _=>⟨k1,k2,k3,k4,fun j hj=> ?_⟩) (fun e=>by have e':(x.ns dst).role=2:= e;omega) (h.inv.com dst),h.ge,h.len,fun v=> ?_⟩,Ext.node x _,fun j hj=>upd_ne _ _ hj,?_,fun _ hm=>by cases hm⟩
 ·have hj':inSet (n.yes ||| bitOf m.src).toNat j=true:= hj;rw[UInt8.toNat_or]at hj';rcases inSet_or _ _ _ hj' with h6|h6
  ·refine k5 j ?_;rw[r.yes];exact h6
  ·rw[e1]at h6;rw[inSet_bit a1 a2 j h6];refine⟨l,?_⟩;show x.g.vt (x.ns dst).term src=_
   rw[r.term,←ht];exact hl
 ·show(upd x.ns dst _ v).term≤_
  by_cases e:v= dst
  ·subst e;rw[upd_same];exact h.tb v
  ·rw[upd_ne _ _ e];exact h.tb v
 ·show Rep _ (upd x.ns dst _ dst)
  rw[upd_same];exact⟨r.term,r.vote,r.log,r.role,r.com,rfl,r.mat,r.base⟩
def hear1(n:RN)(m:WMsg)(now:Int):RN× List WMsg:=
 if m.kind=1 then
  let yes:=decide (m.term=n.hT)&&(decide (n.hV=0)||decide (n.hV=m.src))&&newer n.es m.index m.last
  let a:WMsg:= {emptyM with kind:=2,src:=n.self,dst:=m.src,term:=n.hT,ok:=yes}
  (endF (if yes then again {n with hV:=m.src} now else n),[a])
 else if m.kind=2 then
  if n.role=1∧ m.term=n.hT∧ m.ok=true then
   let n1:={n with yes:=n.yes ||| bitOf m.src}
   if majB n.set n1.yes.toNat then(endF (leadF n1 now).1,(leadF n1 now).2)else(endF n1,[])
  else(endF n,[])
 else if m.kind=3 then
  if m.term<n.hT then(endF n,[tellF n m.src false n.es.length])else
  let n:=again {n with role:=0,known:=m.src} now
  let r:=putR n.es m.index m.last m.entries
  if r.2.2.2≠0 then(endF n,[tellF n m.src false n.es.length])
  else if r.2.2.1=false then(endF n,[tellF n m.src false r.2.1])
  else(endF {n with es:=r.1,com:=max n.com (min m.commit r.2.1)},[tellF n m.src true r.2.1])
 else
  if n.role=2∧ m.term=n.hT then
   let q:=toldF (progF n m.src) m.ok (min m.index n.es.length)
   let n1:=countF {n with p:=putF n.p q}
   (endF n1,if m.ok=false∨ q.next≤n.es.length then[sendF n1 m.src]else[])
  else(endF n,[])
theorem hear_eq(n:RN)(m:WMsg)(now:Int):hearF n m now=if m.kind<1∨ 4<m.kind∨ m.src<1∨ 7<m.src∨ m.src=n.self∨ m.dst≠n.self∨ m.term<1 then(endF n,[])else hear1 (riseF n m.term) m now:=rfl
theorem To.nil{n':RN}{ms:List WMsg}{T' N':Nat}(h:To x T N k n [])(ht:T≤ T')(f:∀y,Ok y T N→Rep n (y.ns k)→Ext x y→To y T' N' k n' ms):To x T' N' k n' ms:=by
 have:=h.bind ht f;simpa using this
theorem countF_is(n:RN):(countF n).self=n.self∧ (countF n).role=n.role∧ (countF n).hT=n.hT:= by
 unfold countF
 split
 ·show(if _ then _ else _:RN).self=_∧ (if _ then _ else _:RN).role=_∧ (if _ then _ else _:RN).hT=_
  split<;>exact ⟨rfl,rfl,rfl⟩
 ·exact⟨rfl,rfl,rfl⟩
theorem tq74 {P:Prop}(h:P:=by
 have h2:=h1.bind n_ (fun y hy ry _=>to_end hy ry)
 exact(by simpa using h2:To x T N k _ _).mono n_ (Nat.le_succ _)):P:=h
theorem to_hear1(h:Ok x T N)(r:Rep n (x.ns k))(hs:n.self= k)(hk1:1≤ k)(hk7:k≤ 7)(hN:N< 4096)(h1T:1≤ n.hT){m:WMsg}(hm:OkM x m)(hd:m.dst= n.self)(hne:m.src≠ n.self)(hk4:m.kind≤ 4)(hk0:1≤ m.kind)(hge:m.term≤ n.hT)(now:Int):
 To x T (N+1) k (hear1 n m now).1 (hear1 n m now).2:=by
 have hm0:=hm;obtain⟨src,dst,e1,e2,a1,a2,a3,a4,a5,_⟩:=hm0;unfold hear1
 split
 ·rename_i hk
  simp only;rcases hy:(decide (m.term=n.hT)&&(decide (n.hV=0)||decide (n.hV=m.src))&&newer n.es m.index m.last)with _|_
  ·rw[if_neg (by simp)];have h1:To x T N k n ([]++[{emptyM with kind:=2,src:=n.self,dst:=m.src,term:=n.hT,ok:=false}]):=(To.here h r).more fun y hy ry _ m' hm'=>by
    rw[List.mem_singleton.1 hm'];refine hy.okB ry ?_ rfl;exact⟨k,src,hs,e1,hk1,hk7,(show(1:Int)≤2 by decide),(show(2:Int)≤4 by decide),h1T,fun e=>absurd (show(2:Int)=1 from e) d_,fun _ e=>absurd (show false=true from e) Bool.false_ne_true,fun e=>absurd (show(2:Int)=3 from e) d_,fun e=>absurd (show(2:Int)=4 from e) d_⟩
   exact tq74
  ·rw[if_pos rfl];rw[Bool.and_eq_true,Bool.and_eq_true,Bool.or_eq_true]at hy;have t1:=of_decide_eq_true hy.1.1;have t2:n.hV= 0∨n.hV= m.src:=hy.1.2.elim (fun e=> .inl (of_decide_eq_true e)) (fun e=> .inr (of_decide_eq_true e));obtain⟨y,k1,k2,k3,k4,s',k5,l,k6⟩:=to_grant h r hm hk t1 t2 hy.2
   have h1:To x T N k (again {n with hV:=m.src} now) [{emptyM with kind:=2,src:=n.self,dst:=m.src,term:=n.hT,ok:=true}]:=⟨y,k1,k2,k3,k4.again now,fun m' hm'=>by
    rw[List.mem_singleton.1 hm'];refine k1.okB k4 ?_ rfl
    exact⟨k,s',hs,k5,hk1,hk7,(show(1:Int)≤2 by decide),(show(2:Int)≤4 by decide),h1T,fun e=>absurd (show(2:Int)=1 from e) d_,fun _ _=>⟨l,k6⟩,fun e=>absurd (show(2:Int)=3 from e) d_,fun e=>absurd (show(2:Int)=4 from e) d_⟩⟩
   exact tq74
 ·split
  ·rename_i hk
   split
   ·rename_i hc
    have h1:=to_yes h r hs hc.1 hm hk hc.2.1 hc.2.2 hd;simp only
    split
    ·rename_i hmj
     refine h1.nil n_ fun y hy ry _=> ?_
     have h2:=(to_leadF hy ry hs hk1 hk7 hc.1 hmj hN now).bind n_ (fun y hy ry _=>to_end hy ry);simpa using h2
    ·exact(h1.nil n_ fun y hy ry _=>to_end hy ry).mono n_ (Nat.le_succ _)
   ·exact(to_end h r).mono n_ (Nat.le_succ _)
  ·split
   ·rename_i hk
    have tell:∀(n':RN) (i:Int),n'.self=n.self→ n'.hT=n.hT→ To x T N k n' []→To x T (N+1) k (endF n') [tellF n' m.src false i]:=fun n' i q1 q2 h1=>by
     have h2:=h1.more (ms':=[tellF n' m.src false i]) (fun y hy ry _ m' hm'=>by
      rw[List.mem_singleton.1 hm',e1]
      exact hy.okB ry (okM_tell hy ry (q1.trans hs) hk1 hk7 (by rw[q2];exact h1T) src i) rfl)
     have h3:=h2.bind n_ (fun y hy ry _=>to_end hy ry);exact(by simpa using h3:To x T N k _ _).mono n_ (Nat.le_succ _)
    split
    ·exact tell n _ rfl rfl (To.here h r)
    ·rename_i hlt
     have hf:To x T N k (again {n with role:=0,known:=m.src} now) []:=(to_follow h r m.src).same fun y ry=>ry.again now
     obtain⟨a1,a2,a3,a4,a5,a6,a7,a8,a9⟩:=again_is {n with role:=0,known:=m.src} now;generalize again {n with role:=0,known:=m.src} now=n2 at hf a1 a2 a3 a4 a5 a6 a7 a8 a9 ⊢;have a1':n2.self= n.self:=a1;have a2':n2.hT= n.hT:=a2;simp only
     split
     ·exact tell n2 _ a1 a2 hf
     ·rename_i he0
      split
      ·exact tell n2 _ a1 a2 hf
      ·rename_i hok
       have hp:putR n2.es m.index m.last m.entries=((putR n2.es m.index m.last m.entries).1,(putR n2.es m.index m.last m.entries).2.1,true,0):=by
        have q1:(putR n2.es m.index m.last m.entries).2.2.1=true:= by
         have:¬(putR n2.es m.index m.last m.entries).2.2.1=false:= hok;simpa using this
        have q2:(putR n2.es m.index m.last m.entries).2.2.2=0:= Classical.byContradiction he0;rw[←q1,←q2]
       refine(hf.nil n_ fun y hy ry xy=> ?_:To x T N k _ _).mono n_ (Nat.le_succ _);have h1:=to_take hy ry (a1'.trans hs) hk1 hk7 (hm.ext h.inv xy) hk (by rw[a2'];omega) hp m.src src;have h2:=h1.same (n':={n2 with es:=(putR n2.es m.index m.last m.entries).1,com:=max n2.com (min m.commit (putR n2.es m.index m.last m.entries).2.1)}) (fun y ry=>Rep.any ry rfl rfl rfl a5 rfl rfl rfl rfl);have h3:=h2.bind n_ (fun y hy ry _=>to_end hy ry);rw[←e1,List.append_nil]at h3;exact h3
   ·rename_i h1 h2 h3
    have hk:m.kind= 4:=o_
    split
    ·rename_i hc
     have q1:=to_told h r hs hc.1 o_ hm hk hc.2 hne;have q2:=q1.nil n_ fun y hy ry _=>to_count hy ry hs
     simp only;have q3:To x T N k (countF {n with p:=putF n.p (toldF (progF n m.src) m.ok (min m.index n.es.length))}) ([]++(if m.ok=false∨ (toldF (progF n m.src) m.ok (min m.index n.es.length)).next≤n.es.length then[sendF (countF {n with p:=putF n.p (toldF (progF n m.src) m.ok (min m.index n.es.length))}) m.src]else[])):=q2.more fun y hy ry _ m' hm'=>by
      split at hm'
      ·rw[List.mem_singleton.1 hm',e1];obtain⟨c1,c2,c3⟩:=countF_is {n with p:=putF n.p (toldF (progF n m.src) m.ok (min m.index n.es.length))};rw[e1]at ry c1 c2 c3;exact hy.okB ry (okM_send hy ry (c1.trans hs) (c2.trans hc.1) hk1 hk7 src) rfl
      ·cases hm'
     have q4:=q3.bind n_ (fun y hy ry _=>to_end hy ry);exact(by simpa using q4:To x T N k _ _).mono n_ (Nat.le_succ _)
    ·exact(to_end h r).mono n_ (Nat.le_succ _)
theorem to_hearF(h:Ok x T N)(r:Rep n (x.ns k))(hs:n.self= k)(hk1:1≤ k)(hk7:k≤ 7)(hN:N< 4096){m:WMsg}(hm:OkM x m)(hmT:m.term≤ T)(now:Int):To x T (N+1) k (hearF n m now).1 (hearF n m now).2:=by
 rw[hear_eq]
 split
 ·exact(to_end h r).mono n_ (Nat.le_succ _)
 ·rename_i hg
  have e:(riseF n m.term).self=n.self:= by unfold riseF;split<;>rfl
  have e2:m.term≤ (riseF n m.term).hT:=by
   unfold riseF
   split
   ·exact Int.le_refl _
   ·omega
  refine(to_rise h r hmT).nil n_ fun y hy ry xy=> ?_
  exact to_hear1 hy ry (e.trans hs) hk1 hk7 hN o_ (hm.ext h.inv xy) (by rw[e];omega) (by rw[e];omega) o_ o_ e2 now
theorem to_new(h:Ok x T N)(r:Rep n (x.ns k))(now:Int):To x T N k (newF n.self n.base n.elect n.pulse n.draws n.hT n.hV n.hB n.es now) []:=by
 have h1:To x T N k ⟨n.self,n.base,n.elect,n.pulse,n.draws,n.hT,n.hV,n.hB,n.es,0,0,0,0,0,0,0,[]⟩ []:=by
  refine⟨{x with ns:=upd x.ns k {x.ns k with role:=0,com:=0,yes:=fun _=>false,mat:=fun _=>0}},⟨h.inv.node k _ rfl (Int.le_refl _) (h.inv.now k) (fun e=>by cases e) (fun e=>by cases e) ⟨Nat.zero_le _,.inl rfl⟩,h.ge,h.len,fun v=> ?_⟩,Ext.node x _,fun j hj=>upd_ne _ _ hj,?_,fun _ hm=>by cases hm⟩
  ·show(upd x.ns k _ v).term≤_
   by_cases e:v= k
   ·subst e;rw[upd_same];exact h.tb v
   ·rw[upd_ne _ _ e];exact h.tb v
  ·show Rep _ (upd x.ns k _ k)
   rw[upd_same];refine⟨r.term,r.vote,r.log,rfl,rfl,?_,fun _=>rfl,r.base⟩
   funext j
   show false=inSet (0:UInt8).toNat j
   unfold inSet
   symm
   rw[decide_eq_false_iff_not];rintro⟨_,_,h3⟩;simp at h3
 exact h1.same fun y ry=>ry.again now
structure NetOk(nd:Nat→ RN)(air:List WMsg)(led:List Int)(done:List WEnt)(T N:Nat):Prop where
 ex:∃x,Ok x T N∧(∀k,1≤k→ k≤3→ Rep (nd k) (x.ns k)∧(nd k).self=k)∧(∀m∈ air,OkM x m∧m.term≤ T)∧
  (∀t (h:t< led.length),led[t]=0∨ ∃k e,led[t]=(k:Nat)∧x.g.el (t:Nat)=some (k,e))∧∃t,ComT x.g t done
def updN(nd:Nat→ RN)(k:Nat)(n:RN):Nat→ RN:=fun j=>if j=k then n else nd j
theorem NetOk.mono{nd:Nat→ RN}{air air':List WMsg}{led:List Int}{done:List WEnt}{T N T' N':Nat}(h:NetOk nd air led done T N)(ht:T≤ T')(hn:N≤ N')(ha:∀m∈ air',m∈air):NetOk nd air' led done T' N':=by
 obtain⟨x,h1,h2,h3,h4⟩:=h.ex;exact⟨x,h1.mono ht hn,h2,fun m hm=>⟨(h3 m (ha m hm)).1,by have:=(h3 m (ha m hm)).2;omega⟩,h4⟩
theorem NetOk.step{nd:Nat→ RN}{air:List WMsg}{led:List Int}{done:List WEnt}{T N T' N' k:Nat}{n:RN}{ms:List WMsg}(h:NetOk nd air led done T N)(hk1:1≤ k)(hk3:k≤ 3)(hT:T≤ T')(hs:n.self= k)(f:∀x,Ok x T N→Rep (nd k) (x.ns k)→(∀m∈ air,OkM x m∧m.term≤ T)→To x T' N' k n ms):NetOk (updN nd k n) (air++ms) led done T' N':=by
 obtain⟨x,h1,h2,h3,h4,t,h5⟩:=h.ex;obtain⟨y,k1,k2,k3,k4,k5⟩:=f x h1 (h2 k hk1 hk3).1 h3;refine⟨y,k1,fun j hj1 hj3=> ?_,fun m hm=> ?_,fun t ht=> ?_,t,h5.ext k2 (certs_len h1.inv)⟩
 ·unfold updN;by_cases e:j= k
  ·rw[if_pos e,e];exact⟨k4,hs⟩
  ·rw[if_neg e,k3 j e];exact h2 j hj1 hj3
 ·rcases List.mem_append.1 hm with hm|hm
  ·exact⟨(h3 m hm).1.ext h1.inv k2,by have:=(h3 m hm).2;omega⟩
  ·exact k5 m hm
 ·rcases h4 t ht with h6|⟨j,e,h6,h7⟩
  ·exact .inl h6
  ·exact .inr ⟨j,e,h6,k2.el _ _ h7⟩
theorem NetOk.led{nd:Nat→ RN}{air:List WMsg}{led:List Int}{done:List WEnt}{T N k:Nat}(h:NetOk nd air led done T N)(hk1:1≤ k)(hk3:k≤ 3)(hr:(nd k).role=2){l:List Int}(hl:led.length≤ l.length)(hle:∀t (h:t< led.length),l[t]'o_=led[t])(hz:∀t (h:t< l.length),led.length≤t→ l[t]=0){t:Nat}(ht:(nd k).hT=t)(htl:t< l.length):
 (l[t]=0∨ l[t]=k)∧NetOk nd air (l.set t k) done T N:=by
 obtain⟨x,h1,h2,h3,h4,h5⟩:=h.ex;obtain⟨r,hs⟩:=h2 k hk1 hk3;obtain⟨⟨e,he⟩,_⟩:=h1.inv.lead k (r.role_nat hr);rw[r.term,ht]at he;have hold:∀t (h:t< l.length),l[t]=0∨ ∃k e,l[t]=(k:Nat)∧x.g.el (t:Nat)=some (k,e):=fun t h=>by
  by_cases hlt:t< led.length
  ·rw[hle t hlt];exact h4 t hlt
  ·exact .inl (hz t h o_)
 refine⟨?_,x,h1,h2,h3,fun u hu=> ?_,h5⟩
 ·rcases hold t htl with h6|⟨j,e',h6,h7⟩
  ·exact .inl h6
  ·rw[he]at h7;cases h7
   exact .inr h6
 ·rw[List.length_set]at hu;rw[List.getElem_set]
  split
  ·rename_i e1
   subst e1;exact .inr ⟨k,e,rfl,he⟩
  ·exact hold u hu
theorem NetOk.com{nd:Nat→ RN}{air:List WMsg}{led:List Int}{done:List WEnt}{T N k:Nat}(h:NetOk nd air led done T N)(hk1:1≤ k)(hk3:k≤ 3):0≤ (nd k).com∧(nd k).com≤(nd k).es.length∧(∀i (_:i< (nd k).com.toNat) (h2:i< (nd k).es.length) (h3:i< done.length),(nd k).es[i]=done[i])∧
 NetOk nd air led (if(nd k).com.toNat≤done.length then done else(nd k).es.take (nd k).com.toNat) T N:=by
 obtain⟨x,h1,h2,h3,h4,t,h5⟩:=h.ex;obtain⟨r,hs⟩:=h2 k hk1 hk3;obtain⟨c1,c2⟩:=h1.inv.com k;have hcn:=r.com;rw[r.log]at c1 c2;have hct:(nd k).com.toNat=(x.ns k).com:=o_;refine⟨by omega,by omega,fun i hi hi2 hi3=> ?_,x,h1,h2,h3,h4,?_⟩
 ·have e:=h1.inv.hist.comm c2 h5 (i+1) (by rw[List.length_take];omega) o_;rw[List.take_take,Nat.min_eq_left o_]at e;exact get_of_take e (Nat.lt_succ_self i) hi2 hi3
 ·split
  ·exact⟨t,h5⟩
  ·exact⟨_,by rw[hct];exact c2⟩
theorem NetOk.rows{nd:Nat→ RN}{air:List WMsg}{led:List Int}{done:List WEnt}{T N a b:Nat}(h:NetOk nd air led done T N)(ha1:1≤ a)(ha3:a≤ 3)(hb1:1≤ b)(hb3:b≤ 3){i:Nat}(h1:i< (nd a).es.length)(h2:i< (nd b).es.length)(he:(nd a).es[i].term=(nd b).es[i].term):(nd a).es.take (i+1)=(nd b).es.take (i+1):=by
 obtain⟨x,k1,k2,_⟩:=h.ex;have ga:=k1.inv.log a;have gb:=k1.inv.log b;rw[(k2 a ha1 ha3).1.log]at ga;rw[(k2 b hb1 hb3).1.log]at gb;rw[(ga i h1).2,(gb i h2).2,he]
theorem NetOk.bounds{nd:Nat→ RN}{air:List WMsg}{led:List Int}{done:List WEnt}{T N k:Nat}(h:NetOk nd air led done T N)(hk1:1≤ k)(hk3:k≤ 3):goodEs 0 (nd k).es=true∧ (nd k).es.length≤N∧ 0≤(nd k).hT∧(nd k).hT≤T∧ 0≤(nd k).hV:=by
 obtain⟨x,k1,k2,_⟩:=h.ex;obtain⟨r,hs⟩:=k2 k hk1 hk3;obtain⟨g1,g2⟩:=k1.good (k1.inv.log k);rw[r.log]at g1 g2;have h1:=k1.inv.term0 k;have h2:=k1.tb k;have h3:=r.term;have h4:=r.vote;exact⟨g1,g2,by omega,by omega,by omega⟩
theorem NetOk.air_bounds{nd:Nat→ RN}{air:List WMsg}{led:List Int}{done:List WEnt}{T N:Nat}(h:NetOk nd air led done T N){m:WMsg}(hm:m∈ air):1≤ m.kind∧m.kind≤ 4∧1≤ m.src∧m.src≤ 7∧1≤ m.term∧m.term≤ T:=by
 obtain⟨x,k1,k2,k3,_⟩:=h.ex;obtain⟨⟨src,dst,e1,e2,a1,a2,a3,a4,a5,_⟩,h2⟩:=k3 m hm;exact⟨a3,a4,by omega,by omega,a5,h2⟩
def x0:Sys WEnt:=⟨fun _=>⟨0,0,[],0,0,fun _=>false,fun _=>0⟩,⟨fun _=>none,fun _=>[],fun _ _=>none,fun _ _=>0,fun _ _ _=>False⟩,fun _ _=>none,fun _=>0⟩
theorem ok0:Ok x0 0 0:=⟨{
 hist:={
  pos:=fun t k m h=>by cases h
  wina:=fun t k m h=>by cases h
  own:=fun t k m h=>by cases h
  good:=fun t i h=>by cases h
  sort:=fun t=>List.Pairwise.nil
  ack:=fun s v=>Nat.le_refl _
  cert:=fun s i m h=>h.elim
  first:=fun s b h=>by cases h
  two:=fun s a b h=>by cases h
  close:=fun s b h=>by cases h}
 none0:=fun t _=>rfl
 log:=fun v i h=>by cases h
 term0:=fun v=>Int.le_refl _
 low:=fun v=>Int.le_refl _
 elt:=fun t k m h=>by cases h
 votes:=fun t v c l h=>by cases h
 now:=fun v=>rfl
 vt0:=fun t v c l h=>by cases h
 ckt:=fun t c l h=>by cases h
 cand:=fun v h=>by cases h
 lead:=fun v h=>by cases h
 acc:=fun v=>⟨Int.le_refl _,fun h=>absurd rfl h,Int.le_refl _⟩
 ack:=fun s v _=>rfl
 held:=fun s v i hi _=>by
  have:i= 0:=Nat.le_zero.1 hi;subst this;rfl
 com:=fun v=>⟨Nat.le_refl _,.inl rfl⟩},fun t=>rfl,fun t=>Nat.le_refl _,fun v=>Int.le_refl _⟩
theorem net0(elect pulse:Int)(draws:List Int)(now:Int):NetOk (fun k=>newF k 7 elect pulse draws 0 0 0 [] now) [] [] [] 0 0:=by
 refine⟨x0,ok0,fun k _ _=>⟨Rep.again (n:=⟨k,7,elect,pulse,draws,0,0,0,[],0,0,0,0,0,0,0,[]⟩) ⟨rfl,rfl,rfl,rfl,rfl,?_,fun _=>rfl,rfl⟩ now,(again_is _ _).1⟩,(fun m hm=>by cases hm),(fun t h=>by cases h),0,.inl rfl⟩
 funext j
 show false=inSet (0:UInt8).toNat j
 unfold inSet
 symm
 rw[decide_eq_false_iff_not];rintro⟨_,_,h3⟩;simp at h3
end Go.Proofs.YtoeofkcpclfnhaaGreat.Raf
namespace Go.Proofs.YtoeofkcpclfnhaaGreat
open Raf
set_option maxHeartbeats 16000000
structure Stat(n:RN)(D:Nat):Prop where
 base:n.base= 7
 elect:n.elect= 1000
 pulse:n.pulse= 250
 draws:n.draws= [5,7]
 hB:n.hB= 0
 d0:0≤ n.drawn
 d1:n.drawn≤ D
 pl:n.p.length≤ D
 pb:∀q∈ n.p,InI q.next
theorem Stat.mono{n:RN}{D D':Nat}(h:Stat n D)(hD:D≤ D'):Stat n D':=⟨h.base,h.elect,h.pulse,h.draws,h.hB,h.d0,by have:=h.d1;omega,Nat.le_trans h.pl hD,h.pb⟩
theorem Stat.num{n n':RN}{D:Nat}(h:Stat n D)(h1:n'.base= n.base)(h2:n'.elect= n.elect)(h3:n'.pulse= n.pulse)(h4:n'.draws= n.draws)(h5:n'.hB= n.hB)(h6:n'.drawn= n.drawn)(h7:n'.p= n.p):Stat n' D:=
 ⟨h1.trans h.base,h2.trans h.elect,h3.trans h.pulse,h4.trans h.draws,h5.trans h.hB,by rw[h6];exact h.d0,by rw[h6];exact h.d1,by rw[h7];exact h.pl,by rw[h7];exact h.pb⟩
theorem Stat.again{n:RN}{D:Nat}(h:Stat n D)(now:Int):Stat (Raf.again n now) (D+1):=by
 unfold Raf.again
 split
 ·have h1:Stat {n with due:=now+ timeoutF n.elect 0} D:=h.num rfl rfl rfl rfl rfl rfl rfl;exact h1.mono (Nat.le_succ _)
 ·exact⟨h.base,h.elect,h.pulse,h.draws,h.hB,by have:=h.d0;show 0≤n.drawn+ 1;omega,by have:=h.d1;show n.drawn+1≤ _;omega,Nat.le_succ_of_le h.pl,h.pb⟩
theorem Stat.count{n:RN}{D:Nat}(h:Stat n D):Stat (countF n) D:=by
 unfold countF
 split
 ·show Stat (if _ then _ else _) D
  split
  ·exact h.num rfl rfl rfl rfl rfl rfl rfl
  ·exact h
 ·exact h
theorem Stat.put{n:RN}{D:Nat}(h:Stat n D)(y:WEnt):Stat (putEF n y) D:=by
 unfold putEF
 split
 ·exact h.num rfl rfl rfl rfl rfl rfl rfl
 ·exact h
theorem Stat.lead{n:RN}{D:Nat}(h:Stat n D)(hD:7≤ D)(hl:n.es.length≤ 4000)(now:Int):Stat (leadF n now).1 D:=by
 obtain⟨b1,b2⟩:=begin_bd n.set n.self hl;have h1:Stat {n with role:=2,known:=n.self,p:=beginF 0 0 n.es n.set n.self} D:=⟨h.base,h.elect,h.pulse,h.draws,h.hB,h.d0,h.d1,Nat.le_trans b1 hD,b2⟩;have h2:=h1.put ⟨n.hT,0,0,0,[]⟩;show Stat (countF {putEF {n with role:=2,known:=n.self,p:=beginF 0 0 n.es n.set n.self} ⟨n.hT,0,0,0,[]⟩with beat:=now+ n.pulse}) D
 exact Stat.count (h2.num rfl rfl rfl rfl rfl rfl rfl)
theorem Stat.elect_{n:RN}{D:Nat}(h:Stat n D)(hD:7≤ D)(hl:n.es.length≤ 4000)(now:Int):Stat (electF n now).1 (D+1):=by
 have h1:=h.again now;have hes:(Raf.again n now).es=n.es:= (again_keeps n now).1;unfold electF;show Stat (if _ then _ else _:RN× List WMsg).1 _
 split
 ·have h2:Stat {Raf.again n now with hT:=(Raf.again n now).hT+1,hV:=(Raf.again n now).self,role:=1,known:=0,yes:=bitOf (Raf.again n now).self} (D+1):=h1.num rfl rfl rfl rfl rfl rfl rfl;show Stat (if _ then _ else _:RN× List WMsg).1 _
  split
  ·exact h2.lead o_ (by show(Raf.again n now).es.length≤_;rw[hes];exact hl) now
  ·exact h2
 ·exact h1
theorem Stat.tick{n:RN}{D:Nat}(h:Stat n D)(hD:7≤ D)(hl:n.es.length≤ 4000)(now:Int):Stat (tickG n now).1 (D+1):=by
 unfold tickG
 split
 ·exact(h.num (n':={n with beat:=now+ n.pulse}) rfl rfl rfl rfl rfl rfl rfl).mono (Nat.le_succ _)
 ·split
  ·exact h.elect_ hD hl now
  ·exact h.mono (Nat.le_succ _)
theorem Stat.endF{n:RN}{D:Nat}(h:Stat n D):Stat (Raf.endF n) D:=by
 unfold Raf.endF
 split
 ·exact h.num rfl rfl rfl rfl rfl rfl rfl
 ·exact h
theorem Stat.rise{n:RN}{D:Nat}(h:Stat n D)(t:Int):Stat (riseF n t) D:=by
 unfold riseF
 split
 ·exact h.num rfl rfl rfl rfl rfl rfl rfl
 ·exact h
theorem Stat.hear{n:RN}{D:Nat}(h0:Stat n D)(hD:7≤ D)(hl0:n.es.length≤ 4000)(m:WMsg)(now:Int):Stat (hearG n m now).1 (D+1):=by
 unfold hearG
 split
 ·exact h0.mono (Nat.le_succ _)
 ·have h:=h0.rise m.term;have hl:(riseF n m.term).es.length≤4000:= by rw[(rise_le n m.term).2.1];exact hl0
  generalize riseF n m.term=n at h hl
  split
  ·unfold voteAskF;show Stat (if _ then _ else _) _
   split
   ·exact(h.num (n':={n with hV:=m.src}) rfl rfl rfl rfl rfl rfl rfl).again now
   ·exact h.mono (Nat.le_succ _)
  ·split
   ·unfold voteTellF
    split
    ·have h2:Stat {n with yes:=n.yes ||| bitOf m.src} D:=h.num rfl rfl rfl rfl rfl rfl rfl;show Stat (if _ then _ else _:RN× List WMsg).1 _
     split
     ·exact(h2.lead hD hl now).mono (Nat.le_succ _)
     ·exact h2.mono (Nat.le_succ _)
    ·exact h.mono (Nat.le_succ _)
   ·split
    ·unfold appendAskF
     split
     ·exact h.mono (Nat.le_succ _)
     ·have h2:Stat (Raf.again {n with role:=0,known:=m.src} now) (D+1):=(h.num (n':={n with role:=0,known:=m.src}) rfl rfl rfl rfl rfl rfl rfl).again now;show Stat (if _ then _ else _:RN× List WMsg).1 _
      split
      ·exact h2
      ·split
       ·exact h2
       ·exact h2.num rfl rfl rfl rfl rfl rfl rfl
    ·unfold appTellF
     split
     ·refine Stat.count ⟨h.base,h.elect,h.pulse,h.draws,h.hB,h.d0,by have:=h.d1;show n.drawn≤_;omega,?_,fun q hq=> ?_⟩
      ·have:=putF_len n.p (toldF (progF n m.src) m.ok (min m.index n.es.length));have:=h.pl;show(putF _ _).length≤_;omega
      ·rcases putF_mem hq with h5|h5
       ·rw[h5];exact told_in _ _ _
       ·exact h.pb q h5
     ·exact h.mono (Nat.le_succ _)
theorem Stat.prop{n:RN}{D:Nat}(h:Stat n D){y:WEnt}{r:RN× List WMsg}(hr:propG n y=some r):Stat r.1 D:=by
 unfold propG at hr
 split at hr
 ·cases hr
 ·split at hr
  ·cases hr
  ·split at hr
   ·cases hr
   ·split at hr
    ·cases hr
    ·cases hr
     exact Stat.count (h.num rfl rfl rfl rfl rfl rfl rfl)
theorem Stat.new{n:RN}{D:Nat}(h:Stat n D)(now:Int):Stat (newF n.self n.base n.elect n.pulse n.draws n.hT n.hV n.hB n.es now) (D+1):=
 have h1:Stat (⟨n.self,n.base,n.elect,n.pulse,n.draws,n.hT,n.hV,n.hB,n.es,0,0,0,0,0,0,0,[]⟩:RN) D:=⟨h.base,h.elect,h.pulse,h.draws,h.hB,Int.le_refl _,by show(0:Int)≤_;omega,Nat.zero_le _,fun q hq=>by cases hq⟩
 h1.again now
def Few(k:Nat)(l:List WMsg):Prop:= l.length≤k∧ ∀m∈ l,m.entries.length≤16
theorem Few.nil(k:Nat):Few k []:=⟨Nat.zero_le _,fun m hm=>by cases hm⟩
theorem Few.mono{k j:Nat}{l:List WMsg}(h:Few k l)(hk:k≤ j):Few j l:=⟨Nat.le_trans h.1 hk,h.2⟩
theorem Few.app{k j:Nat}{l m:List WMsg}(h:Few k l)(h2:Few j m):Few (k+j) (l++m):=⟨by rw[List.length_append];have:=h.1;have:=h2.1;omega,fun q hq=>(List.mem_append.1 hq).elim (h.2 q) (h2.2 q)⟩
theorem Few.one{m:WMsg}(h:m.entries.length≤ 16):Few 1 [m]:=⟨Nat.le_refl _,fun q hq=>by rw[List.mem_singleton]at hq;subst hq;exact h⟩
theorem from_few(es:List WEnt)(nx:Int):(fromF 0 0 es nx 16).1.length≤16:= by
 unfold fromF;by_cases h1:okR 0 0 es=true
 ·rw[if_pos h1];by_cases h2:nx≤ 0∨0+ (es.length:Int)+1< nx
  ·rw[if_pos h2];exact Nat.zero_le _
  ·rw[if_neg h2];show(List.take _ _).length≤16
   rw[List.length_take];have:(cl 0 16 16).toNat=16:= d_;omega
 ·rw[if_neg h1];exact Nat.zero_le _
theorem send_few(n:RN)(k:Int):(sendF n k).entries.length≤16:= by
 show(askF 0 0 n.es (progF n k).next 16).2.2.2.2.length≤16
 unfold askF
 split
 ·split
  ·exact Nat.zero_le _
  ·split
   ·exact Nat.zero_le _
   ·exact from_few _ _
 ·exact Nat.zero_le _
theorem others_len(n:RN):(others n).length≤7:= by
 unfold others;rw[List.length_map];exact Nat.le_trans (List.length_filter_le _ _) (by simp)
theorem all_few(n:RN):Few 7 (allF n):=⟨by unfold allF;rw[List.length_map];exact others_len n,fun m hm=>by
 obtain⟨k,-,rfl⟩:=List.mem_map.1 hm
 exact send_few n k⟩
theorem lead_few(n:RN)(now:Int):Few 7 (leadF n now).2:=all_few _
theorem elect_few(n:RN)(now:Int):Few 14 (electF n now).2:=by
 unfold electF;show Few 14 (if _ then _ else _:RN× List WMsg).2
 split
 ·have ha:Few 7 ((others (Raf.again n now)).map fun k=>{emptyM with kind:=1,src:=(Raf.again n now).self,dst:=k,term:=(Raf.again n now).hT+1,index:=(Raf.again n now).es.length,last:=lastT 0 (Raf.again n now).es}):=⟨by rw[List.length_map];exact others_len _,fun m hm=>by
   obtain⟨k,-,rfl⟩:=List.mem_map.1 hm
   exact Nat.zero_le _⟩
  show Few 14 (if _ then _ else _:RN× List WMsg).2
  split
  ·exact ha.app (lead_few _ now)
  ·exact ha.mono d_
 ·exact .nil _
theorem tick_few(n:RN)(now:Int):Few 14 (tickG n now).2:=by
 unfold tickG
 split
 ·exact(all_few n).mono d_
 ·split
  ·exact elect_few n now
  ·exact .nil _
theorem hear_few(n:RN)(m:WMsg)(now:Int):Few 14 (hearG n m now).2:=by
 unfold hearG
 split
 ·exact .nil _
 ·generalize riseF n m.term=n
  split
  ·exact(Few.one (Nat.zero_le _)).mono d_
  ·split
   ·unfold voteTellF
    split
    ·show Few 14 (if _ then _ else _:RN× List WMsg).2
     split
     ·exact(lead_few _ now).mono d_
     ·exact .nil _
    ·exact .nil _
   ·split
    ·unfold appendAskF
     split
     ·exact(Few.one (Nat.zero_le _)).mono d_
     ·show Few 14 (if _ then _ else _:RN× List WMsg).2
      split
      ·exact(Few.one (Nat.zero_le _)).mono d_
      ·split
       ·exact(Few.one (Nat.zero_le _)).mono d_
       ·exact(Few.one (Nat.zero_le _)).mono d_
    ·unfold appTellF
     split
     ·show Few 14 (if _ then _ else _)
      split
      ·exact(Few.one (send_few _ _)).mono d_
      ·exact .nil _
     ·exact .nil _
theorem prop_few{n:RN}{y:WEnt}{r:RN× List WMsg}(hr:propG n y=some r):Few 14 r.2:=by
 unfold propG at hr
 split at hr
 ·cases hr
 ·split at hr
  ·cases hr
  ·split at hr
   ·cases hr
   ·split at hr
    ·cases hr
    ·cases hr
     exact(all_few _).mono d_
theorem end_keeps(n:RN):(Raf.endF n).es=n.es∧ (Raf.endF n).self=n.self∧ (Raf.endF n).hT=n.hT:= by
 unfold Raf.endF
 split<;>exact ⟨rfl,rfl,rfl⟩
theorem Raf.NetOk.low{nd:Nat→ RN}{air:List WMsg}{led:List Int}{done:List WEnt}{T N k:Nat}(h:NetOk nd air led done T N)(hk1:1≤ k)(hk3:k≤ 3):lastT 0 (nd k).es≤(nd k).hT:=by
 obtain⟨x,k1,k2,_⟩:=h.ex;obtain⟨r,hs⟩:=k2 k hk1 hk3;have h1:=k1.inv.low k;have h2:lt WEnt.term (x.ns k).log≤(x.ns k).term:=h1;rw[r.log,r.term,lt_lastT]at h2;exact h2
end Go.Proofs.YtoeofkcpclfnhaaGreat
namespace Go.Proofs.YtoeofkcpclfnhaaGreat
open Go.ChangeShapes Go.WideShapes Go.ChangeAt Go.RowKit
set_option maxRecDepth 100000
open Raf (RN NetOk updN)
set_option maxHeartbeats 16000000
def Kept(N:Nt)(k:Nat):Prop:= N.hT k=(N.x k).n.hT∧N.hV k=(N.x k).n.hV∧N.hB k=(N.x k).n.hB∧ents (N.rs k)=(N.x k).n.es
structure NetInv(N:Nt)(i:Nat):Prop where
 ok:NetOk (fun k=>(N.x k).n) (N.air.map Ms.m) N.led (ents N.done) i i
 st:∀k,1≤k→ k≤3→ Stat (N.x k).n (i+8)
 kept:∀k,1≤k→ k≤3→ Kept N k
 now:∀k,1≤k→ k≤3→ 0≤N.now k∧N.now k≤3000* (i:Int)
 few:∀m∈ N.air,m.m.entries.length≤16
 led:N.led.length≤ i+1
 don:N.done.length≤ i
theorem gd_of{N:Nt}{i k:Nat}{air:List WMsg}{led:List Int}{done:List WEnt}(h:NetOk (fun k=>(N.x k).n) air led done i i)(hi:i≤ 1000)(h1:1≤ k)(h3:k≤ 3){D:Nat}(hs:Stat (N.x k).n D)(hD:D≤ 100000):Gd (N.x k).n D∧(N.x k).n.self=k∧ 0≤(N.x k).n.hV:=by
 obtain⟨b1,b2,b3,b4,b5⟩:=h.bounds h1 h3;have b6:=h.low h1 h3;obtain⟨c1,c2,-,-⟩:=h.com h1 h3;have hself:(N.x k).n.self=k:= by
  obtain⟨x,-,k2,-⟩:=h.ex;exact(k2 k h1 h3).2
 (try simp only at b1 b2 b3 b4 b5 b6 c1 c2);refine⟨⟨Raf.ok_of b1 o_,b6,by omega,by rw[hself];omega,by rw[hself];omega,by rw[hs.elect];decide,by rw[hs.elect];decide,by rw[hs.pulse];decide,by rw[hs.pulse];decide,by rw[hs.draws];decide,b3,by omega,c1,c2,hs.d0,hs.d1,hs.pl,hs.pb,hD⟩,hself,b5⟩
theorem doneAt_len(d es:List WEnt)(j n:Nat)(h1:d.length≤ n)(h2:es.length≤ n):(doneAt d es j).length≤n:= by
 unfold doneAt
 split
 ·exact h1
 ·rw[List.length_take];omega
theorem aft_inv{w:World}{X B k i:Nat}{N:Nt}(hx:Bex w X (cellsNt N))(hp:NtP w X N)(hB:B≤ w.heap.size)(hlo:∀j,N.mut X j→B≤ j)(h1:1≤ k)(h3:k≤ 3)(ef:Ef)(hrow:FRow (N.mut X) w ef.sa (ef.sl.flatMap cellsMs))(hms:∀m∈ ef.sl,MsAt (N.mut X) w m)(hi:i≤ 900)(hal:N.air.length≤ 1000)(hsl:ef.sl.length≤ 1000)(hok:NetOk (fun j=>(N.x j).n) (N.air.map Ms.m++ef.sl.map Ms.m) N.led (ents N.done) i i)(hst:∀j,1≤j→ j≤3→ Stat (N.x j).n (i+8))(hkp:∀j,1≤j→ j≤3→ j≠k→ Kept N j)(hnow:∀j,1≤j→ j≤3→ 0≤N.now j∧N.now j≤3000* (i:Int))(hfew:∀m∈ N.air++ef.sl,m.m.entries.length≤16)(hled:N.led.length≤ i+1)(hdon:N.done.length≤ i):
 Calls Tryz.prog 23 #[.pointer (some ⟨X,0,none⟩),.int .i64 (k:Int),.agg (cellsEf ef).toArray] w (fun en w'=>en= .returned (.bool true)∧∃N',Bex w' X (cellsNt N')∧NtP w' X N'∧(∀j,N'.mut X j→B≤ j)∧NetInv N' i∧N'.air.length= N.air.length+ef.sl.length∧ Below B w w'):=by
 obtain⟨hg,hself,hv⟩:=gd_of hok o_ h1 h3 (hst k h1 h3) o_;obtain⟨b1,b2,b3,b4,b5⟩:=hok.bounds h1 h3;obtain⟨c1,c2,c3,-⟩:=hok.com h1 h3;(try simp only at b1 b2 b3 b4 b5 c1 c2 c3);have htt:(N.x k).n.hT=((N.x k).n.hT.toNat:Int):=o_;have hlx:N.led.length≤ (N.led++List.replicate ((N.x k).n.hT.toNat+1- N.led.length) (0:Int)).length:=by rw[List.length_append];omega
 have hle:∀t (h:t< N.led.length),(N.led++List.replicate ((N.x k).n.hT.toNat+1- N.led.length) (0:Int))[t]'(by rw[List.length_append];omega)=N.led[t]:=fun t h=>List.getElem_append_left h
 have hlz:∀t (h:t< (N.led++List.replicate ((N.x k).n.hT.toNat+1- N.led.length) (0:Int)).length),N.led.length≤t→ (N.led++List.replicate ((N.x k).n.hT.toNat+1- N.led.length) (0:Int))[t]=0:= fun t h h2=>by
  rw[List.getElem_append_right h2,List.getElem_replicate]
 refine(after_nd hx hp hB hlo h1 h3 ef hrow hms o_ o_ o_ o_ hg.ok hg.len b3 o_ (fun h hr=>(hok.led h1 h3 hr hlx hle hlz htt h).1) c1 c2 c3).mono (fun en w' hr=> ?_);obtain⟨rfl,N',hx',hp',hlo',ha,hb'⟩:=hr;obtain⟨fs,hrs,hfs⟩:=ha.rs;refine⟨rfl,N',hx',hp',hlo',?_,by have h5:=congrArg List.length ha.air;simpa using h5,hb'⟩;have hok2:NetOk (fun j=>(N.x j).n) (N.air.map Ms.m++ef.sl.map Ms.m) (ledF N.led (N.x k).n.role (N.x k).n.hT k) (ents N.done) i i:=by
  unfold ledF
  split
  ·rename_i hr
   have htl:(N.x k).n.hT.toNat<(N.led++List.replicate ((N.x k).n.hT.toNat+1- N.led.length) (0:Int)).length:=by rw[List.length_append,List.length_replicate];omega
   exact(hok.led h1 h3 hr hlx hle hlz htt htl).2
  ·exact hok
 have hok3:=(hok2.com h1 h3).2.2.2;refine⟨?_,fun j j1 j3=>by rw[ha.x];exact hst j j1 j3,fun j j1 j3=> ?_,fun j j1 j3=>by rw[ha.now];exact hnow j j1 j3,fun m hm=> ?_,?_,?_⟩
 ·rw[ha.x,ha.air,ha.led,ha.don];exact hok3
 ·by_cases e:j= k
  ·subst e;unfold Kept;rw[ha.hT,ha.hV,ha.hB,ha.x,hrs,upd_same,upd_same,upd_same,upd_same];exact⟨rfl,rfl,rfl,hfs⟩
  ·have h5:=hkp j j1 j3 e;unfold Kept at h5 ⊢;rw[ha.hT,ha.hV,ha.hB,ha.x,hrs,upd_ne _ _ e,upd_ne _ _ e,upd_ne _ _ e,upd_ne _ _ e];exact h5
 ·have h5:m.m∈ N'.air.map Ms.m:=List.mem_map_of_mem hm;rw[ha.air,←List.map_append]at h5;obtain⟨m2,h6,h7⟩:=List.mem_map.1 h5;rw[←h7];exact hfew m2 h6
 ·rw[ha.led];unfold ledF
  split
  ·rw[List.length_set,List.length_append,List.length_replicate];omega
  ·exact hled
 ·have h5:=congrArg List.length ha.don;rw[ents_len]at h5;rw[h5];exact doneAt_len _ _ _ _ (by rw[ents_len];exact hdon) b2
end Go.Proofs.YtoeofkcpclfnhaaGreat
namespace Go.Proofs.YtoeofkcpclfnhaaGreat
open Go.ChangeShapes Go.WideShapes Go.ChangeAt Go.RowKit
set_option maxRecDepth 100000
set_option maxHeartbeats 16000000
theorem i64_and1023(n:Int):bits .and .i64 n 1023=n% 1024:=by
 have h127:(BitVec.ofInt 64 1023).toNat=2^ 10-1:= d_;have key:(BitVec.ofInt 64 n &&& BitVec.ofInt 64 1023).toNat=(n%((2^64: Nat):Int)).toNat%2^ 10:=by
  rw[BitVec.toNat_and,BitVec.toNat_ofInt,h127,Nat.and_two_pow_sub_one_eq_mod]
 show IntKind.i64.wrap ((BitVec.ofInt 64 n &&& BitVec.ofInt 64 1023).toNat:Nat)=n% 1024
 rw[key,IntKind.wrap_i64];omega
theorem pick_lt(K:Int){L:Nat}(hL:0< L):0≤ Int.tmod (Int.tmod K L+L) L∧Int.tmod (Int.tmod K L+L) L<L∧ -(L:Int)<Int.tmod K L∧Int.tmod K L<L:= by
 have h1:=tmod_lt K L o_;have h2:=tmod_pos (Int.tmod K L+L) L o_ o_;exact⟨h2.1,h2.2,h1.1,h1.2⟩
def RetAc(w:World)(Bs X i:Nat)(N:Nt)(en:Ending)(w':World):Prop:= en= .returned (.bool true)∧∃N',Bex w' X (cellsNt N')∧NtP w' X N'∧(∀j,N'.mut X j→Bs≤ j)∧NetInv N' (i+1)∧N'.air.length≤ N.air.length+14∧ Below Bs w w'
theorem NetInv.mono{N:Nt}{i j:Nat}(h:NetInv N i)(hj:i≤ j):NetInv N j:=⟨h.ok.mono hj hj (fun _ hm=>hm),fun k k1 k3=>(h.st k k1 k3).mono o_,h.kept,fun k k1 k3=>⟨(h.now k k1 k3).1,by have:=(h.now k k1 k3).2;omega⟩,h.few,by have:=h.led;omega,by have:=h.don;omega⟩
end Go.Proofs.YtoeofkcpclfnhaaGreat
namespace Go.Proofs.YtoeofkcpclfnhaaGreat
open Go.ChangeShapes Go.WideShapes Go.ChangeAt Go.RowKit
set_option maxRecDepth 100000
open Raf (RN NetOk updN)
set_option maxHeartbeats 16000000
theorem nt_nset{N:Nt}{k:Nat}(h3:k≤ 3)(v:Int):(cellsNt N).set (4+k) (.int .i64 v)=cellsNt {N with now:=upd N.now k v}:=by
 rcases(by omega:k= 0∨k= 1∨k= 2∨k= 3)with rfl|rfl| rfl|rfl<;>rfl
theorem NtP.nowU{w:World}{X k:Nat}{N:Nt}(h:NtP w X N)(v:Int):NtP w X {N with now:=upd N.now k v}:=⟨h.nd,h.gne,h.gX,h.rows,h.air,h.msgs,h.led,h.don,h.dones,h.sa,h.sl,h.sd⟩
theorem NetInv.nowU{N:Nt}{i k:Nat}(h:NetInv N i){v:Int}(h0:0≤ v)(h1:v≤ 3000*((i+1: Nat):Int)):NetInv {N with now:=upd N.now k v} (i+1):=
 have h':=h.mono (Nat.le_succ i)
 ⟨h'.ok,h'.st,h'.kept,fun j j1 j3=>by
  show 0≤upd N.now k v j∧upd N.now k v j≤_
  by_cases e:j= k
  ·subst e;rw[upd_same];exact⟨h0,h1⟩
  ·rw[upd_ne _ _ e];exact h'.now j j1 j3,h'.few,h'.led,h'.don⟩
theorem self_of{N:Nt}{i k:Nat}(h:NetInv N i)(h1:1≤ k)(h3:k≤ 3):(N.x k).n.self=k:= by
 obtain⟨x,-,k2,-⟩:=h.ok.ex;exact(k2 k h1 h3).2
theorem tick_ok{N:Nt}{i k:Nat}(h:NetInv N i)(hi:i< 900)(h1:1≤ k)(h3:k≤ 3)(now:Int):NetOk (updN (fun j=>(N.x j).n) k (Raf.endF (tickG (N.x k).n now).1)) (N.air.map Ms.m++(tickG (N.x k).n now).2) N.led (ents N.done) (i+1) (i+1):=by
 have hs:=self_of h h1 h3;have h5:=h.ok.step (n:=(Raf.tickF (N.x k).n now).1) (ms:=(Raf.tickF (N.x k).n now).2) h1 h3 (Nat.le_succ i) (by rw[tick_eq,(end_keeps _).2.1,tickG_self];exact hs) (fun x ho hr _=>Raf.to_tickF ho hr hs h1 o_ o_ now);rw[tick_eq]at h5;exact h5
theorem made_bd{nd:Nat→ RN}{n1:RN}{air:List WMsg}{led:List Int}{done:List WEnt}{i k:Nat}(h:NetOk (updN nd k (Raf.endF n1)) air led done i i)(hi:i≤ 4000)(h1:1≤ k)(h3:k≤ 3):okR 0 0 n1.es=true∧ n1.es.length≤4096:= by
 obtain⟨b1,b2,-⟩:=h.bounds h1 h3;have e:updN nd k (Raf.endF n1) k=Raf.endF n1:=if_pos rfl;rw[e,(end_keeps n1).1]at b1 b2;exact⟨Raf.ok_of b1 o_,by omega⟩
theorem step_aft{w w':World}{X Bs i k:Nat}{N:Nt}{n1:RN}{ms:List WMsg}{en:Ending}(hx:Bex w X (cellsNt N))(hp:NtP w X N)(hB:Bs≤ w.heap.size)(hlo:∀j,N.mut X j→Bs≤ j)(h1:1≤ k)(h3:k≤ 3)(hi:i< 400)(hal:N.air.length≤ 300)(hinv:NetInv N (i+1))(hr:RetEf (N.mut X) (fun j=>j= N.g k) w (N.g k) n1 ms en w')(hok:NetOk (updN (fun j=>(N.x j).n) k (Raf.endF n1)) (N.air.map Ms.m++ms) N.led (ents N.done) (i+1) (i+1))(hst:Stat (Raf.endF n1) (i+9))(hf:Few 14 ms):
 ∃ef: Ef,en= .returned (.agg (cellsEf ef).toArray)∧Bex w' X (cellsNt N)∧Below Bs w w'∧∀w2,Below w'.heap.size w' w2→Calls Tryz.prog 23 #[.pointer (some ⟨X,0,none⟩),.int .i64 (k:Int),.agg (cellsEf ef).toArray] w2 (fun en w3=>en= .returned (.bool true)∧∃N',Bex w3 X (cellsNt N')∧NtP w3 X N'∧(∀j,N'.mut X j→Bs≤ j)∧NetInv N' (i+1)∧N'.air.length≤ N.air.length+14∧ Below Bs w2 w3):=by
 obtain⟨T',x',e',ef,rfl,hst2,hx',hn,hm,hrow,hin,hms,hc,hl⟩:=hr;have hxl:=hx.lt;have hgX:N.g k≠X:= hp.gX k h1 h3;have hx2:Bex w' X (cellsNt N):=hx.block (hst2.keep.block X hxl (fun h5=>hgX h5.symm));have hp2:NtP w' X {N with x:=upd N.x k x',e:=upd N.e k e'}:=hp.node hxl h1 h3 hst2 hn;have hsl:ef.sl.length≤ 14:=by have h5:=congrArg List.length hm;rw[List.length_map]at h5;rw[h5];exact hf.1
 have hb2:Below Bs w w':=hst2.keep.below hB (fun j h5=>by rw[h5];exact hlo _ (.inr (.inl ⟨k,h1,h3,rfl⟩)));refine⟨ef,rfl,hx2,hb2,fun w2 hb=> ?_⟩;have hnd:(fun j=>(upd N.x k x' j).n)=updN (fun j=>(N.x j).n) k (Raf.endF n1):=by
  funext j
  unfold upd updN
  split
  ·exact hx'
  ·rfl
 have hlen2:w'.heap.size≤ w2.heap.size:=hb.size;refine(aft_inv (N:={N with x:=upd N.x k x',e:=upd N.e k e'}) (hx2.next hb) (hp2.next hb) (Nat.le_trans hB (Nat.le_trans hst2.keep.size hlen2)) hlo h1 h3 ef ⟨hrow.below hb,fun h0 b o s e5=>(hin b (by rw[e5];rfl)).2⟩ (fun m h5=>((hms m h5).below hb).mono (fun j h6=> .inl h6)) (by omega:i+ 1≤900) (by show N.air.length≤_;omega) o_ ?_ (fun j j1 j3=> ?_) (fun j j1 j3 hne=> ?_) hinv.now (fun m h5=> ?_) hinv.led hinv.don).mono (fun en w3 h5=> ?_)
 ·rw[hm];show NetOk (fun j=>(upd N.x k x' j).n) _ _ _ _ _
  rw[hnd];exact hok
 ·show Stat (upd N.x k x' j).n _
  by_cases e5:j= k
  ·subst e5;rw[upd_same,hx'];exact hst.mono o_
  ·rw[upd_ne _ _ e5];exact hinv.st j j1 j3
 ·have h5:=hinv.kept j j1 j3;unfold Kept at h5 ⊢;show N.hT j=(upd N.x k x' j).n.hT∧N.hV j=(upd N.x k x' j).n.hV∧N.hB j=(upd N.x k x' j).n.hB∧ents (N.rs j)=(upd N.x k x' j).n.es
  rw[upd_ne _ _ hne];exact h5
 ·rcases List.mem_append.1 h5 with h5|h5
  ·exact hinv.few m h5
  ·exact hf.2 m.m (by rw[←hm];exact List.mem_map_of_mem h5)
 ·obtain⟨h6,N',a1,a2,a3,a4,a5,a6⟩:=h5;exact⟨h6,N',a1,a2,a3,a4,by rw[a5];show N.air.length+_≤ _;omega,a6⟩
end Go.Proofs.YtoeofkcpclfnhaaGreat
