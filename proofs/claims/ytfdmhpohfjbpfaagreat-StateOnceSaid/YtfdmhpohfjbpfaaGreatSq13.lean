import Derived.Lib.Mul64
import Derived.Laws.Bits64b
import Derived.Test.YtfdmhpohfjbpfaaGreatSqWirCmd
set_option linter.unusedVariables false
set_option linter.unusedSimpArgs false
namespace Go.Proofs.YtfdmhpohfjbpfaaGreat
def dskGood (d:Desk):Bool:= decide (d.shaper≤8)&&(decide (1≤d.epoch)&&decide (1≤d.number))
def dsksOk (l:List Desk):Bool:= chainOk Desk.shaper dskGood 0 l
def stateOk (s:St):Bool:= decide (0≤s.term∧ 0≤s.stamp)&&(sessOk s.sess&&(stOk s&&dsksOk s.dsks))
def ticksS (s:St) (x:WEnt):Int:= if x.term=s.term then max (x.stamp-s.stamp) 0 else 0
def creditedS (s:St) (x:WEnt):St:= {creditS s (ticksS s x)with term:=x.term,stamp:=x.stamp}
def putC (s:St) (c:WCmd):St× Ans:=({s with tens:=(putS s.tens c.tenant c.rate c.burst (outL s.leas c.tenant)).1},(putS s.tens c.tenant c.rate c.burst (outL s.leas c.tenant)).2)
def getC (s:St) (c:WCmd):St× Ans:=(s,getS s.tens c.tenant)
def delC (s:St) (c:WCmd):St× Ans:=({s with tens:=(deleteS s.tens c.tenant (outL s.leas c.tenant)).1},(deleteS s.tens c.tenant (outL s.leas c.tenant)).2)
def keptC (c:WCmd) (r:St× Ans):St× Ans:=({r.1 with sess:=(keepS r.1.sess c.client c.number r.2).1},r.2)
def clientC (f:St→ WCmd→St× Ans) (s:St) (c:WCmd):St× Ans:=
 if(askS s.sess c.client c.number).2.2≠0 then(s,Ans.err (askS s.sess c.client c.number).2.2)
 else if(askS s.sess c.client c.number).2.1=false then(s,(askS s.sess c.client c.number).1)
 else keptC c (f s c)
def grantNew (s:St) (c:WCmd):St× Ans:=
 ({(grantS s c.shaper c.epoch c.number c.tenant c.size).1 with dsks:=insK Desk.shaper ⟨c.shaper,c.epoch,c.number,(grantS s c.shaper c.epoch c.number c.tenant c.size).2⟩ (grantS s c.shaper c.epoch c.number c.tenant c.size).1.dsks},
  (grantS s c.shaper c.epoch c.number c.tenant c.size).2)
def deskBad (c:WCmd):Prop:= c.shaper<1∨ 8<c.shaper∨ c.epoch<1∨ c.number<1
instance (c:WCmd):Decidable (deskBad c):=by unfold deskBad;infer_instance
def deskOld (c:WCmd) (d:Desk):Prop:= c.epoch<d.epoch∨ (c.epoch=d.epoch∧ c.number<d.number)
instance (c:WCmd) (d:Desk):Decidable (deskOld c d):=by unfold deskOld;infer_instance
def deskTold (c:WCmd) (d:Desk):Prop:= c.epoch=d.epoch∧ c.number=d.number
instance (c:WCmd) (d:Desk):Decidable (deskTold c d):=by unfold deskTold;infer_instance
def grantC (s:St) (c:WCmd):St× Ans:=
 if deskBad c then(s,Ans.err 2)
 else match findK Desk.shaper s.dsks c.shaper with
  |none=> grantNew s c
  |some d=>if deskOld c d then(s,Ans.err 150)else if deskTold c d then(s,d.answer)else grantNew s c
def reportC (s:St) (c:WCmd):St× Ans:=((reportS s c.shaper c.epoch c.lease c.spent c.closed).1,Ans.err (reportS s c.shaper c.epoch c.lease c.spent c.closed).2)
def expireC (s:St) (c:WCmd):St× Ans:=(expireS s c.leases,Ans.err 0)
def doC (s:St) (c:WCmd):St× Ans:=
 if c.kind=1 then clientC putC s c else if c.kind=2 then clientC getC s c else if c.kind=3 then clientC delC s c
 else if c.kind=4 then grantC s c else if c.kind=5 then reportC s c else if c.kind=6 then expireC s c else(s,Ans.err 2)
def readC (x:WEnt):WCmd× Nat×Int:= readP zCmd wCmdP x.data
def applyS (s:St) (x:WEnt):St× Ans:=
 if stateOk s=false∨ x.term<1∨ x.stamp<0∨ x.kind<0∨ 2<x.kind then(s,Ans.err 2)
 else if x.kind≠2 then(creditedS s x,Ans.err 0)
 else if(readC x).2.2≠0 then(creditedS s x,Ans.err 2)
 else doC (creditedS s x) (readC x).1
def allS (s:St):List WEnt→St× List Ans
 |[]=>(s,[])
 |x:: l=>((allS (applyS s x).1 l).1,(applyS s x).2::(allS (applyS s x).1 l).2)
def newS:St:= ⟨0,0,1,[],[],[],[]⟩
theorem stateOk_parts {s:St} (h:stateOk s=true):0≤ s.term∧0≤ s.stamp∧sessOk s.sess=true∧ stOk s=true∧ dsksOk s.dsks=true:= by
 unfold stateOk at h
 simp only[Bool.and_eq_true,decide_eq_true_eq]at h
 exact⟨h.1.1,h.1.2,h.2.1,h.2.2.1,h.2.2.2⟩
theorem stateOk_mk {s:St} (h1:0≤ s.term) (h2:0≤ s.stamp) (h3:sessOk s.sess=true) (h4:stOk s=true) (h5:dsksOk s.dsks=true):stateOk s=true:= by
 unfold stateOk
 rw[decide_eq_true ⟨h1,h2⟩,h3,h4,h5];rfl
theorem chain_len {α:Type} {key:α→ Int} {good:α→ Bool} {m:Int} (hg:∀x,good x=true→ key x≤m):∀ {l:List α} {a:Int},a≤m→ chainOk key good a l=true→ a+l.length≤ m
 |[],a,ha,_=>by simpa using ha
 |x:: l,a,ha,h=>by
  rw[chainOk,Bool.and_eq_true,Bool.and_eq_true,decide_eq_true_eq]at h
  have:=chain_len hg (hg x h.1.2) h.2
  rw[List.length_cons];omega
theorem dsk_len {l:List Desk} (h:dsksOk l=true):l.length≤ 8:=by
 have:=chain_len (m:=8) (fun x hx=>by unfold dskGood at hx;simp only[Bool.and_eq_true,decide_eq_true_eq]at hx;exact hx.1) (by omega) h
 omega
theorem ses_len {l:List Session} (h:sessOk l=true):l.length≤ 16:=by
 have:=chain_len (m:=16) (fun x hx=>by unfold sesGood at hx;simp only[Bool.and_eq_true,decide_eq_true_eq]at hx;exact hx.1) (by omega) h
 omega
theorem ten_len:∀ {ts:List Tenant} {a:Int},a≤16→ tensOk a ts=true→ a+ts.length≤ 16
 |[],a,ha,_=>by simpa using ha
 |x:: l,a,ha,h=>by
  rw[tensOk,Bool.and_eq_true]at h
  obtain⟨h1,h2⟩:=tenOk_iff.1 h.1
  have:=ten_len (okT_parts h2).1 h.2
  rw[List.length_cons];omega
structure Small (s:St):Prop where
 ten:s.tens.length≤ 301
 lea:s.leas.length≤ 301
 ses:s.sess.length≤ 301
 dsk:s.dsks.length≤ 301
theorem ok_small {s:St} (h:stateOk s=true):Small s:=by
 obtain⟨_,_,h3,h4,h5⟩:=stateOk_parts h
 obtain⟨g1,_,g3,_⟩:=stOk_parts h4
 have:=ten_len (a:=0) (by omega) g1
 have:=ses_len h3
 have:=dsk_len h5
 exact⟨by omega,by omega,by omega,by omega⟩
theorem credit_clamp (s:St) (k:Int) (hk:0≤ k):creditS s k=creditS s (min k 1099511627776):=by
 unfold creditS credT creditI
 rw[show broughtI (min k 1099511627776) 0 1099511627776=broughtI k 0 1099511627776 by unfold broughtI;omega]
theorem ticks_nonneg (s:St) (x:WEnt):0≤ ticksS s x:=by unfold ticksS;split<;>omega
theorem credited_st {s:St} (h:stOk s=true) (x:WEnt):stOk (creditS s (ticksS s x))=true∧ (creditS s (ticksS s x)).leas=s.leas∧ ∀id,buck (creditS s (ticksS s x)).tens id≤buck s.tens id+(findT s.tens id).1.rate*min (ticksS s x) 1099511627776:=by
 have h0:=ticks_nonneg s x
 rw[credit_clamp s _ h0]
 exact credit_ok h _ (by omega) (by omega)
theorem credit_rest (s:St) (k:Int):(creditS s k).term=s.term∧ (creditS s k).stamp=s.stamp∧ (creditS s k).next=s.next∧ (creditS s k).sess=s.sess∧ (creditS s k).dsks=s.dsks:= by
 unfold creditS
 split
 ·exact⟨rfl,rfl,rfl,rfl,rfl⟩
 ·exact⟨rfl,rfl,rfl,rfl,rfl⟩
theorem grant_rest (s:St) (sh ep nu te sz:Int):(grantS s sh ep nu te sz).1.term=s.term∧ (grantS s sh ep nu te sz).1.stamp=s.stamp∧ (grantS s sh ep nu te sz).1.sess=s.sess∧ (grantS s sh ep nu te sz).1.dsks=s.dsks:= by
 unfold grantS
 repeat' split
 all_goals exact⟨rfl,rfl,rfl,rfl⟩
theorem report_rest (s:St) (sh ep le sp:Int) (cl:Bool):(reportS s sh ep le sp cl).1.term=s.term∧ (reportS s sh ep le sp cl).1.stamp=s.stamp∧ (reportS s sh ep le sp cl).1.sess=s.sess∧ (reportS s sh ep le sp cl).1.dsks=s.dsks:= by
 unfold reportS
 repeat' split
 all_goals exact⟨rfl,rfl,rfl,rfl⟩
theorem expire_rest (s:St) (l:List Int):(expireS s l).term=s.term∧ (expireS s l).stamp=s.stamp∧ (expireS s l).sess=s.sess∧ (expireS s l).dsks=s.dsks:= by
 unfold expireS
 split
 ·exact⟨rfl,rfl,rfl,rfl⟩
 ·exact⟨rfl,rfl,rfl,rfl⟩
theorem credited_ok {s:St} (h:stateOk s=true) {x:WEnt} (h1:1≤ x.term) (h2:0≤ x.stamp):stateOk (creditedS s x)=true:= by
 obtain⟨g1,g2,g3,g4,g5⟩:=stateOk_parts h
 obtain⟨r1,r2,r3,r4,r5⟩:=credit_rest s (ticksS s x)
 refine stateOk_mk (by show 0≤x.term;omega) h2 (by show sessOk (creditS s (ticksS s x)).sess=true;rw[r4];exact g3) ?_ (by show dsksOk (creditS s (ticksS s x)).dsks=true;rw[r5];exact g5)
 exact(credited_st g4 x).1
theorem put_ok {s:St} (h:stOk s=true) (id rate burst:Int):stOk {s with tens:=(putS s.tens id rate burst (outL s.leas id)).1}=true∧ ∀i,buck (putS s.tens id rate burst (outL s.leas id)).1 i≤buck s.tens i:=by
 obtain⟨h1,h2,h3,h4⟩:=stOk_parts h
 have hfit:=leasOk_fits h1 h2
 have ho:=outL_range id hfit
 unfold putS
 rw[if_neg (by rw[h1];simp)]
 by_cases c1:id< 1∨16< id
 ·rw[if_pos c1];exact⟨h,fun _=>Int.le_refl _⟩
 rw[if_neg c1]
 cases c2:mayB rate burst with
 |false=> rw[if_pos rfl];exact⟨h,fun _=>Int.le_refl _⟩
 |true=>
  rw[if_neg (by simp)]
  have hm:=may_parts c2
  have hb:=findT_bucket id h1
  have hb2:=bucketL_range id h1
  have hr:=cutI_range (findT s.tens id).1.bucket burst (max (outL s.leas id) 0)
  have hr2:=roomI_range burst (max (outL s.leas id) 0)
  have hx:okT ⟨id,rate,burst,cutI (findT s.tens id).1.bucket burst (max (outL s.leas id) 0),false⟩=true:= okT_mk (by show id≤16;omega) c2 (by show 0≤cutI _ _ _∧cutI _ _ _≤1000000000;omega) rfl
  have hid:0< (⟨id,rate,burst,cutI (findT s.tens id).1.bucket burst (max (outL s.leas id) 0),false⟩:Tenant).id:=by show 0<id;omega
  obtain⟨f1,f2,f3⟩:=withL_facts h1 hid hx
  refine⟨stOk_mk f1 (leasOk_tens h2 (Int.le_refl _) (fun i hi=>with_found h1 hid hx i hi)) h3 (fun y hy=> ?_),fun i=> ?_⟩
  ·rcases with_mem h1 hid hx hy with rfl|⟨hy1,_⟩
   ·rw[tenRoom_iff]
    intro hp
    simp only at hp ⊢
    rw[show max (outL s.leas id) 0=outL s.leas id by omega]at hp ⊢
    exact cut_room ⟨hm.2.2.1,hm.2.2.2⟩ ho.1 hp
   ·exact h4 y hy1
  ·rw[buck_with h1 hid hx]
   split
   ·rename_i e
    have:=cutI_le (findT s.tens id).1.bucket burst (max (outL s.leas id) 0) (by omega)
    subst e
    exact this
   ·exact Int.le_refl _
theorem del_ok {s:St} (h:stOk s=true) (id:Int):stOk {s with tens:=(deleteS s.tens id (outL s.leas id)).1}=true∧ ∀i,buck (deleteS s.tens id (outL s.leas id)).1 i≤buck s.tens i:=by
 obtain⟨h1,h2,h3,h4⟩:=stOk_parts h
 have hfit:=leasOk_fits h1 h2
 have ho:=outL_range id hfit
 have hbk:∀i,0≤buck s.tens i:=fun i=>by unfold buck;rw[findT_bucket i h1];exact bucketL_range i h1
 unfold deleteS
 by_cases he:(getS s.tens id).e=0
 ·rw[if_neg (by simpa using he)]
  have hid:0< id∧id≤ 16:=by
   rw[getS_eq id h1]at he
   cases hf:findO s.tens id with
   |none=> rw[hf]at he;cases he
   |some x=>
    obtain⟨q1,q2⟩:=findO_mem hf
    have q3:=(tensOk_iff.1 h1).1 x q1
    have q4:=(okT_parts q3.2).1
    omega
  by_cases hout:0< outL s.leas id
  ·rw[if_pos hout]
   have hx:okT ⟨id,0,0,0,true⟩=true:= by unfold okT ask2 ask3 ask4;simp only[Bool.and_eq_true,decide_eq_true_eq];exact⟨⟨⟨hid.2,rfl⟩,by omega⟩,rfl⟩
   have hid':0< (⟨id,0,0,0,true⟩:Tenant).id:=hid.1
   obtain⟨f1,f2,f3⟩:=withL_facts h1 hid' hx
   refine⟨stOk_mk f1 (leasOk_tens h2 (Int.le_refl _) (fun i hi=>with_found h1 hid' hx i hi)) h3 (fun y hy=> ?_),fun i=> ?_⟩
   ·rcases with_mem h1 hid' hx hy with rfl|⟨hy1,_⟩
    ·rw[tenRoom_iff];intro hp;exact absurd hp (by show ¬(0:Int)<0;omega)
    ·exact h4 y hy1
   ·rw[buck_with h1 hid' hx]
    split
    ·exact hbk i
    ·exact Int.le_refl _
  ·rw[if_neg hout]
   obtain⟨f1,f2,f3⟩:=withoutL_facts id h1
   have hno:∀x∈ s.leas,x.tenant≠id:= fun x hx e=>by
    have:=outL_mem hfit hx
    have h5:=lea_parts h2 hx
    rw[e]at this;omega
   refine⟨stOk_mk f1 ?_ h3 (fun y hy=> ?_),fun i=> ?_⟩
   ·obtain⟨l1,l2⟩:=chainOk_iff.1 h2
    refine chainOk_iff.2 ⟨fun x hx=>⟨(l1 x hx).1,?_⟩,l2⟩
    have h6:=(l1 x hx).2
    unfold leaGood at h6 ⊢
    simp only[Bool.and_eq_true,decide_eq_true_eq]at h6 ⊢
    refine⟨?_,h6.2⟩
    rw[found_iff f1,f3 _ (hno x hx)]
    exact(found_iff h1).1 h6.1
   ·have h7:=findO_of_mem (tensOk_iff.1 f1).2 hy
    by_cases e:y.id= id
    ·rw[e,f2]at h7;cases h7
    ·rw[f3 _ e]at h7;exact h4 y (findO_mem h7).1
   ·unfold buck
    rw[findT_eq i f1]
    by_cases e:i= id
    ·rw[e,f2];simp only[zeroT];have:=hbk id;unfold buck at this;exact this
    ·rw[f3 i e,findT_eq i h1];exact Int.le_refl _
 ·rw[if_pos he];exact⟨h,fun _=>Int.le_refl _⟩
theorem ask_fresh {l:List Session} {c n:Int} (h:(askS l c n).2.2=0):mayS l c n=true∧ ((askS l c n).2.1=true→ (findS l c).1.number<n):=by
 unfold askS at h ⊢
 by_cases h1:mayS l c n=false
 ·rw[if_pos h1]at h;cases h
 ·rw[if_neg h1]at h ⊢
  refine⟨by simpa using h1,?_⟩
  by_cases h2:n< (findS l c).1.number
  ·rw[if_pos h2]at h;cases h
  ·rw[if_neg h2]at h ⊢
   by_cases h3:n= (findS l c).1.number
   ·rw[if_pos h3];intro h;cases h
   ·rw[if_neg h3];intro _;omega
theorem keep_fresh {l:List Session} {c n:Int} {a:Ans} (h:(askS l c n).2.2=0) (h2:(askS l c n).2.1=true):keepS l c n a=(insK Session.client ⟨c,n,a⟩ l,0)∧sessOk (insK Session.client ⟨c,n,a⟩ l)=true:= by
 obtain⟨hm,hl⟩:=ask_fresh h
 have hl:=hl h2
 obtain⟨m1,m2,m3,m4⟩:=mayS_ok hm
 refine⟨?_,chainOk_insK m1 (show 0<c by omega) (by unfold sesGood;simp only[Bool.and_eq_true,decide_eq_true_eq];exact⟨m3,m4⟩)⟩
 unfold keepS
 rw[if_neg (by rw[hm];simp),if_neg (by unfold lastS;rw[if_pos m1];omega)]
theorem client_ok {s:St} (h:stateOk s=true) (c:WCmd) (f:St→ WCmd→St× Ans) (hf:∃ts,(f s c).1={s with tens:=ts}∧stOk {s with tens:=ts}=true):stateOk (clientC f s c).1=true:= by
 obtain⟨g1,g2,g3,g4,g5⟩:=stateOk_parts h
 unfold clientC
 by_cases h1:(askS s.sess c.client c.number).2.2≠0
 ·rw[if_pos h1];exact h
 rw[if_neg h1]
 by_cases h2:(askS s.sess c.client c.number).2.1=false
 ·rw[if_pos h2];exact h
 rw[if_neg h2]
 obtain⟨ts,e,hts⟩:=hf
 unfold keptC
 rw[e]
 obtain⟨k1,k2⟩:=keep_fresh (a:=(f s c).2) (by simpa using h1) (by simpa using h2)
 simp only
 rw[k1]
 exact stateOk_mk g1 g2 k2 hts g5
theorem grantNew_ok {s:St} (h:stateOk s=true) {c:WCmd} (hc:¬deskBad c):stateOk (grantNew s c).1=true:= by
 obtain⟨g1,g2,g3,g4,g5⟩:=stateOk_parts h
 obtain⟨r1,r2,r3,r4⟩:=grant_rest s c.shaper c.epoch c.number c.tenant c.size
 unfold deskBad at hc
 unfold grantNew
 refine stateOk_mk (by simp only;rw[r1];exact g1) (by simp only;rw[r2];exact g2) (by simp only;rw[r3];exact g3) (grant_ok g4 _ _ _ _ _).1 ?_
 simp only
 rw[r4]
 refine chainOk_insK g5 (show 0<c.shaper by omega) ?_
 unfold dskGood;simp only[Bool.and_eq_true,decide_eq_true_eq];omega
theorem grantC_ok {s:St} (h:stateOk s=true) (c:WCmd):stateOk (grantC s c).1=true:= by
 unfold grantC
 split
 ·exact h
 ·rename_i hb
  split
  ·exact grantNew_ok h hb
  ·split
   ·exact h
   ·split
    ·exact h
    ·exact grantNew_ok h hb
theorem reportC_ok {s:St} (h:stateOk s=true) (c:WCmd):stateOk (reportC s c).1=true:= by
 obtain⟨g1,g2,g3,g4,g5⟩:=stateOk_parts h
 obtain⟨r1,r2,r3,r4⟩:=report_rest s c.shaper c.epoch c.lease c.spent c.closed
 unfold reportC
 exact stateOk_mk (by simp only;rw[r1];exact g1) (by simp only;rw[r2];exact g2) (by simp only;rw[r3];exact g3) (report_ok g4 _ _ _ _ _).1 (by simp only;rw[r4];exact g5)
theorem expireC_ok {s:St} (h:stateOk s=true) (c:WCmd):stateOk (expireC s c).1=true:= by
 obtain⟨g1,g2,g3,g4,g5⟩:=stateOk_parts h
 obtain⟨r1,r2,r3,r4⟩:=expire_rest s c.leases
 unfold expireC
 exact stateOk_mk (by simp only;rw[r1];exact g1) (by simp only;rw[r2];exact g2) (by simp only;rw[r3];exact g3) (expire_ok g4 _).1 (by simp only;rw[r4];exact g5)
theorem doC_ok {s:St} (h:stateOk s=true) (c:WCmd):stateOk (doC s c).1=true:= by
 have g4:=(stateOk_parts h).2.2.2.1
 unfold doC
 split
 ·exact client_ok h c putC ⟨_,rfl,(put_ok g4 _ _ _).1⟩
 split
 ·exact client_ok h c getC ⟨_,rfl,g4⟩
 split
 ·exact client_ok h c delC ⟨_,rfl,(del_ok g4 _).1⟩
 split
 ·exact grantC_ok h c
 split
 ·exact reportC_ok h c
 split
 ·exact expireC_ok h c
 ·exact h
theorem apply_ok {s:St} (h:stateOk s=true) (x:WEnt):stateOk (applyS s x).1=true:= by
 unfold applyS
 split
 ·exact h
 ·rename_i hx
  have hc:=credited_ok h (x:=x) (by omega) (by omega)
  split
  ·exact hc
  ·split
   ·exact hc
   ·exact doC_ok hc _
theorem apply_small {s:St} (h:Small s) (x:WEnt):Small (applyS s x).1:=by
 cases hs:stateOk s with
 |true=> exact ok_small (apply_ok hs x)
 |false=> unfold applyS;rw[if_pos (.inl hs)];exact h
end Go.Proofs.YtfdmhpohfjbpfaaGreat
namespace Go.Proofs.YtfdmhpohfjbpfaaGreat
open Go
def Till (st:Nat) (l:Array Bool) (C:Prop):Prop:= l.getD st true=false→ C
section
variable {P:Program} {ops:Array Oper} {Q:Exit→ Act→World→ Prop} {md:Region.Mode} {S:Array Bool→World→ Prop}
def wpAnyL (P:Program) (md:Region.Mode) (ops:Array Oper) (Q:Exit→ Act→World→ Prop) (S:Array Bool→World→ Prop):Nat→ Array Bool→Act→ World→Prop
 |0,listed,a,w=>Region.ready md ops listed=[]∧Q .normal a w
 |fuel+ 1,listed,a,w=>
  (Region.ready md ops listed=[]→Q .normal a w)∧
  ∀i∈ Region.ready md ops listed,wpOp P ops Q i (fun a' w'=>S (listed.setIfInBounds i true) w'∧wpAnyL P md ops Q S fuel (listed.setIfInBounds i true) a' w') a w
theorem any_of_list:∀(fuel:Nat) (listed:Array Bool) (a:Act) (w:World),wpAnyL P md ops Q S fuel listed a w→wpAny P md ops Q fuel listed a w
 |0,_,_,_,h=>h
 |fuel+ 1,_,_,_,h=>⟨h.1,fun i hi=>wpOp_mono (fun a' w' h'=>any_of_list fuel _ a' w' h'.2) (h.2 i hi)⟩
abbrev NotYet (D:List Nat) (listed:Array Bool):Prop:= ∀d∈ D,listed.getD d true=false
def waitFor (md:Region.Mode) (ops:Array Oper) (i:Nat) (D:List Nat):Bool:=
 D.all fun d=>match ops[d]? with|some o=>o.after.any (fun e=>Region.binds md e&&(e.on==i|| D.contains e.on))|none=> false
theorem notYet_next {i j:Nat} {D:List Nat} {listed:Array Bool} (hw:waitFor md ops i D=true) (hi:listed.getD i true=false) (hD:NotYet D listed) (hj:j∈ Region.ready md ops listed):NotYet D (listed.setIfInBounds j true):=fun d hd=>by
 have hne:j≠ d:=by
  rintro rfl
  obtain⟨_,o,ho,hall⟩:=mem_ready.1 hj
  have h1:=(List.all_eq_true.1 hw) j hd
  simp only[ho]at h1
  obtain⟨e,he,h2⟩:∃e,e∈o.after∧ (Region.binds md e&&(e.on==i|| D.contains e.on))=true:= by
   obtain⟨n,hn,h1⟩:=Array.any_eq_true.1 h1
   exact⟨_,Array.getElem_mem hn,h1⟩
  rw[Bool.and_eq_true,Bool.or_eq_true]at h2
  have h3:=hall e he h2.1
  have h4:listed.getD e.on true=false:= by
   rcases h2.2 with h|h
   ·have:e.on= i:=by simpa using h
    rw[this];exact hi
   ·exact hD _ (by simpa using h)
  rcases Nat.lt_or_ge e.on listed.size with h'|h'
  ·simp[h']at h3 h4;rw[h4]at h3;cases h3
  ·simp[Array.getElem?_eq_none h']at h3
 rw[getD_set_ne true hne];exact hD d hd
theorem list_first {i:Nat} {oi:Oper} {v:Value} (D:List Nat) (hi:ops[i]? =some oi) (hsel:∀(j:Nat) (o:Oper) cs b,ops[j]? =some o→o.op≠ .select cs b)
 (hQ:∀c a w,Q (.panic c) (a.put oi.dst v) w→Q (.panic c) a w) (hw:waitFor md ops i D=true) (hSi:∀l w,S (l.setIfInBounds i true) w→S l w):
 ∀(fuel:Nat) (listed:Array Bool) (a:Act) (w:World),
  (∀j oj,ops[j]? =some oj→j≠ i→listed.getD j true=false→ (∀e∈ oj.after,Region.binds md e=true→ e.on≠i)→oi.apart ops oj=true)→
  i∈Region.ready md ops listed→NotYet D listed→YieldsIf P ops (fun w=>∃l,NotYet D l∧S l w) oi v a→S listed w→
  wpAnyL P md ops Q S fuel (listed.setIfInBounds i true) (a.put oi.dst v) w→(S (listed.setIfInBounds i true) w)→wpAnyL P md ops Q S (fuel+1) listed a w:=by
 intro fuel
 induction fuel with
 |zero=>
  intro listed a w _ hr hD hy hS H hSn
  refine⟨fun h=>(by rw[h]at hr;cases hr),fun j hj=> ?_⟩
  by_cases hji:j= i
  ·subst hji;exact hy.wpOp (w:=w) hi ⟨listed,hD,hS⟩ ⟨hSn,H⟩
  ·have:=ready_mono hj hji
   rw[H.1]at this
   cases this
 |succ fuel ih=>
  intro listed a w hfree hr hD hy hS H hSn
  refine⟨fun h=>(by rw[h]at hr;cases hr),fun j hj=> ?_⟩
  by_cases hji:j= i
  ·subst hji;exact hy.wpOp (w:=w) hi ⟨listed,hD,hS⟩ ⟨hSn,H⟩
  ·have h1:=H.2 j (ready_mono hj hji)
   obtain⟨hjun,oj,hoj,hall⟩:=mem_ready.1 hj
   have hiun:=(mem_ready.1 hr).1
   have hnot:∀e∈ oj.after,Region.binds md e=true→ e.on≠i:= fun e he hb heq=>by
    have h1:=hall e he hb
    rw[heq]at h1
    rcases Nat.lt_or_ge i listed.size with h'|h'
    ·simp[h']at hiun h1;rw[hiun]at h1;cases h1
    ·simp[Array.getElem?_eq_none h']at h1
   have h2:=wpOp_putIf hoj (hfree j oj hoj hji hjun hnot) (fun cs b=>hsel i oi cs b hi) (fun cs b=>hsel j oj cs b hoj) hQ hy h1
   have hfree':∀k ok,ops[k]? =some ok→k≠ i→(listed.setIfInBounds j true).getD k true=false→
    (∀e∈ ok.after,Region.binds md e=true→ e.on≠i)→oi.apart ops ok=true:= fun k ok hk hki hun hno=>by
    refine hfree k ok hk hki ?_ hno
    by_cases hjk:j= k
    ·subst hjk;exact hjun
    ·rw[getD_set_ne true hjk]at hun;exact hun
   have hcomm:(listed.setIfInBounds i true).setIfInBounds j true=(listed.setIfInBounds j true).setIfInBounds i true:=Array.setIfInBounds_comm _ _ (Ne.symm hji)
   refine wpOp_mono (fun a' w' h3=> ?_) h2
   have h4:=h3.2.1
   have h5:=h3.2.2
   rw[hcomm]at h4 h5
   have h6:=hSi _ _ h4
   exact⟨h6,ih (listed.setIfInBounds j true) a' w' hfree' (ready_mono hr (Ne.symm hji)) (notYet_next hw hiun hD hj) h3.1 h6 h5 h4⟩
theorem wpAnyL_take (D:List Nat) {i:Nat} {oi:Oper} {v:Value} {fuel:Nat} {listed:Array Bool} {a:Act} {w:World} (hi:ops[i]? =some oi)
 (hs:Region.noSelect ops=true) (hf:Region.free md ops listed i=true) (hr:(Region.ready md ops listed).contains i=true) (hw:waitFor md ops i D=true) (hD:(D.all fun d=> !(listed.getD d true))=true)
 (hQ:∀c a w,Q (.panic c) (a.put oi.dst v) w→Q (.panic c) a w) (hSi:∀l w,S (l.setIfInBounds i true) w↔S l w) (hy:YieldsIf P ops (fun w=>∃l,NotYet D l∧S l w) oi v a) (hS:S listed w)
 (h:wpAnyL P md ops Q S fuel (listed.setIfInBounds i true) (a.put oi.dst v) w):wpAnyL P md ops Q S (fuel+1) listed a w:=
 list_first D hi (Region.noSelect_spec hs) hQ hw (fun l w=>(hSi l w).1) fuel listed a w (Region.free_spec hi hf) (by simpa using hr) (fun d hd=>by have:=(List.all_eq_true.1 hD) d hd;simpa using this) hy hS h ((hSi _ _).2 hS)
theorem wpAnyL_done {listed:Array Bool} {a:Act} {w:World} (hr:Region.ready md ops listed=[]) (h:Q .normal a w):∀fuel,wpAnyL P md ops Q S fuel listed a w
 |0=> ⟨hr,h⟩
 |_+ 1=>⟨fun _=>h,by rw[hr];simp⟩
theorem wp_region_list (S:Array Bool→World→ Prop) {id:Nat} {a:Act} {w:World} (hm:P.follows .mixedOrders=true)
 (h:wpAnyL P .any ops Q S ops.size (Array.replicate ops.size false) a w.drew):(Code.region id ops true).wp P Q a w:=
 wp_region_any hm (any_of_list _ _ _ _ h)
def wpAnyS (P:Program) (md:Region.Mode) (ops:Array Oper) (Q:Exit→ Act→World→ Prop) (S:Array Bool→World→ Prop) (fuel:Nat) (listed:Array Bool) (a:Act) (w:World):Prop:= S listed w→wpAnyL P md ops Q S fuel listed a w
theorem toS {fuel:Nat} {listed:Array Bool} {a:Act} {w:World} (hS:S listed w) (h:wpAnyS P md ops Q S fuel listed a w):wpAnyL P md ops Q S fuel listed a w:=h hS
theorem ofS {fuel:Nat} {listed:Array Bool} {a:Act} {w:World} (h:wpAnyL P md ops Q S fuel listed a w):wpAnyS P md ops Q S fuel listed a w:=fun _=>h
theorem tkq (i:Nat) {oi:Oper} {v:Value} {fuel:Nat} {listed l':Array Bool} {a a':Act} {w:World} (h:wpAnyS P md ops Q S fuel l' a' w) (hi:ops[i]? =some oi:=by exact rfl)
 (hy:YieldsIf P ops (fun w=>∃l,NotYet [] l∧S l w) oi v a:=by exact Or.inl ⟨by rfl,by(rintro w ⟨l,hD,hSw⟩;(try dsimp only at hSw);clear hD;go_simp;rfl)⟩)
 (hs:Region.noSelect ops=true:= by kernel_rfl) (hf:Region.free md ops listed i=true:= by kernel_rfl) (hr:(Region.ready md ops listed).contains i=true:= by kernel_rfl)
 (hQ:∀c a w,Q (.panic c) (a.put oi.dst v) w→Q (.panic c) a w:=by exact fun _ _ _ h=>h) (hSi:∀l w,S (l.setIfInBounds i true) w↔S l w:=by exact fun _ _=>Iff.rfl)
 (ha:a.put oi.dst v=a':= by((try simp only[Act.put,List.setIfInBounds_toArray,List.set_cons_zero,List.set_cons_succ,List.getElem_toArray,List.getElem_cons_zero,List.getElem_cons_succ]);exact rfl))
 (hl:listed.setIfInBounds i true=l':= by((try simp only[List.setIfInBounds_toArray,List.set_cons_zero,List.set_cons_succ]);exact rfl)):wpAnyS P md ops Q S (fuel+1) listed a w:=
 fun hS=>wpAnyL_take [] hi hs hf hr rfl rfl hQ hSi hy hS (by rw[ha,hl];exact h (hl▸(hSi _ _).2 hS))
theorem till_set {i st:Nat} {l:Array Bool} {C:Prop} (h:i≠ st):Till st (l.setIfInBounds i true) C↔Till st l C:=by unfold Till;rw[getD_set_ne true h]
theorem ttq (D:List Nat) (i:Nat) {oi:Oper} {v:Value} {fuel:Nat} {listed l':Array Bool} {a a':Act} {w:World} (h:wpAnyS P md ops Q S fuel l' a' w) (hi:ops[i]? =some oi:=by exact rfl)
 (hy:YieldsIf P ops (fun w=>∃l,NotYet D l∧S l w) oi v a:=by exact Or.inl ⟨by rfl,by(rintro w ⟨l,hD,hSw⟩;(try dsimp only at hSw);(try have hC0:=hSw.2 (hD _ (List.mem_singleton_self _)));replace hSw:=hSw.1;clear hD;go_simp;rfl)⟩)
 (hs:Region.noSelect ops=true:= by kernel_rfl) (hf:Region.free md ops listed i=true:= by kernel_rfl) (hr:(Region.ready md ops listed).contains i=true:= by kernel_rfl)
 (hw:waitFor md ops i D=true:= by kernel_rfl) (hD:(D.all fun d=> !(listed.getD d true))=true:= by kernel_rfl)
 (hQ:∀c a w,Q (.panic c) (a.put oi.dst v) w→Q (.panic c) a w:=by exact fun _ _ _ h=>h) (hSi:∀l w,S (l.setIfInBounds i true) w↔S l w:=by (intro l w;first|exact and_congr Iff.rfl (till_set (by decide))|exact and_congr Iff.rfl (and_congr (till_set (by decide)) (till_set (by decide)))|exact and_congr Iff.rfl (and_congr (till_set (by decide)) (and_congr (till_set (by decide)) (till_set (by decide))))|exact and_congr Iff.rfl (and_congr (till_set (by decide)) (and_congr (till_set (by decide)) (and_congr (till_set (by decide)) (till_set (by decide)))))))
 (ha:a.put oi.dst v=a':= by((try simp only[Act.put,List.setIfInBounds_toArray,List.set_cons_zero,List.set_cons_succ,List.getElem_toArray,List.getElem_cons_zero,List.getElem_cons_succ]);exact rfl))
 (hl:listed.setIfInBounds i true=l':= by((try simp only[List.setIfInBounds_toArray,List.set_cons_zero,List.set_cons_succ]);exact rfl)):wpAnyS P md ops Q S (fuel+1) listed a w:=
 fun hS=>wpAnyL_take D hi hs hf hr hw hD hQ hSi hy hS (by rw[ha,hl];exact h (hl▸(hSi _ _).2 hS))
def StepS (P:Program) (md:Region.Mode) (ops:Array Oper) (Q:Exit→ Act→World→ Prop) (S:Array Bool→World→ Prop) (fuel:Nat) (listed:Array Bool) (a:Act) (w:World) (i:Nat) (o:Oper):Prop:=
 ∀K: Act→World→ Prop,Shut (∀a w {l' a'},S (listed.setIfInBounds i true) w→wpAnyS P md ops Q S fuel l' a' w→(ha:a= a':=by ((try simp only[Act.put,List.setIfInBounds_toArray,List.set_cons_zero,List.set_cons_succ,List.getElem_toArray,List.getElem_cons_zero,List.getElem_cons_succ]);exact rfl))→(hl:listed.setIfInBounds i true=l':= by((try simp only[List.setIfInBounds_toArray,List.set_cons_zero,List.set_cons_succ]);exact rfl))→K a w)→if Region.wanted o (yielded ops a.tmps)=true then Oper.wp P o a w K Q else K (a.put o.dst undef) w
theorem StepS.wp {fuel:Nat} {listed:Array Bool} {a:Act} {w:World} {i:Nat} {o:Oper} (h:StepS P md ops Q S fuel listed a w i o) (ho:ops[i]? =some o):
 wpOp P ops Q i (fun a' w'=>S (listed.setIfInBounds i true) w'∧wpAnyL P md ops Q S fuel (listed.setIfInBounds i true) a' w') a w:=
 wpOp_step ho (fun K' hK=>h K' (fun a w l' a' hS hW ha hl=>hK a w ⟨hS,by subst ha;subst hl;exact hW hS⟩))
theorem loq (i:Nat) {o:Oper} {fuel:Nat} {listed:Array Bool} {a:Act} {w:World} (h:StepS P md ops Q S fuel listed a w i o) (ho:ops[i]? =some o:=by exact rfl) (hr:Region.ready md ops listed=[i]:=by kernel_rfl):
 wpAnyL P md ops Q S (fuel+1) listed a w:=by
 refine⟨fun h0=>(by rw[hr]at h0;cases h0),fun j hj=> ?_⟩
 rw[hr]at hj
 obtain rfl:=List.mem_singleton.1 hj
 exact h.wp ho
theorem soq (i:Nat) {o:Oper} {fuel:Nat} {listed:Array Bool} {a:Act} {w:World} (h:StepS P md ops Q S fuel listed a w i o) (ho:ops[i]? =some o:=by exact rfl) (hr:Region.ready md ops listed=[i]:=by kernel_rfl):
 wpAnyS P md ops Q S (fuel+1) listed a w:=ofS (loq i h ho hr)
theorem l2q (i j:Nat) {o o2:Oper} {fuel:Nat} {listed:Array Bool} {a:Act} {w:World} (h:StepS P md ops Q S fuel listed a w i o) (h2:StepS P md ops Q S fuel listed a w j o2) (ho:ops[i]? =some o:=by exact rfl) (ho2:ops[j]? =some o2:=by exact rfl) (hr:Region.ready md ops listed=[i,j]:=by kernel_rfl):
 wpAnyL P md ops Q S (fuel+1) listed a w:=by
 refine⟨fun h0=>(by rw[hr]at h0;cases h0),fun k hk=> ?_⟩
 rw[hr]at hk
 rcases List.mem_cons.1 hk with rfl|hk
 ·exact h.wp ho
 ·obtain rfl:=List.mem_singleton.1 hk
  exact h2.wp ho2
theorem s2q (i j:Nat) {o o2:Oper} {fuel:Nat} {listed:Array Bool} {a:Act} {w:World} (h:StepS P md ops Q S fuel listed a w i o) (h2:StepS P md ops Q S fuel listed a w j o2) (ho:ops[i]? =some o:=by exact rfl) (ho2:ops[j]? =some o2:=by exact rfl) (hr:Region.ready md ops listed=[i,j]:=by kernel_rfl):
 wpAnyS P md ops Q S (fuel+1) listed a w:=ofS (l2q i j h h2 ho ho2 hr)
theorem sdq {fuel:Nat} {listed:Array Bool} {a:Act} {w:World} (h:Q .normal a w) (hr:Region.ready md ops listed=[]:=by kernel_rfl):wpAnyS P md ops Q S fuel listed a w:=ofS (wpAnyL_done hr h _)
theorem wrq (S:Array Bool→World→ Prop) {id:Nat} {a:Act} {w:World} (h:wpAnyL P .any ops Q S ops.size (Array.replicate ops.size false) a w.drew) (hm:P.follows .mixedOrders=true:= by kernel_rfl):(Code.region id ops true).wp P Q a w:=wp_region_list S hm h
end
end Go.Proofs.YtfdmhpohfjbpfaaGreat
namespace Go.Proofs.YtfdmhpohfjbpfaaGreat
open Go.ChangeShapes Go.WideShapes Go.ChangeAt Go.RowKit
set_option maxRecDepth 100000
theorem pget_any (ts:List Tenant) (a:Option Addr) (n c:Nat) (id:Int) (w:World) (hn:ts.length= n) (hl:ts.length≤ maxLen) (hr:TRow w a ts):
 Calls Tryz.prog 66 #[.slice a n c,.int .i64 id] w (RetA w (getS ts id)):=by
 have HG:Hid (getS ts id=if tensOk 0 ts=false then Ans.err 2 else if(findT ts id).2=false∨ (findT ts id).1.gone=true then Ans.err 161 else⟨0,(findT ts id).1.rate,(findT ts id).1.burst,0,0⟩):=rfl
 generalize getS ts id=out at HG ⊢
 have hfind:=pfind_any ts a n c id (w.alloc (.cells #[.int .i64 0,.int .i64 0,.int .i64 0,.int .i64 0,.int .i64 0] 40)) hn hl (Row.alloc hr _)
 rcases hfd:findT ts id with⟨⟨xid,xrate,xburst,xbucket,xgone⟩,ok⟩
 rw[hfd]at hfind HG
 have HF:=Lib.hid hfind
 clear hfind hfd
 cases ht:tensOk 0 ts with
 |false=>
  have HT:=Lib.hid ht
  have HO:Hid (out=Ans.err 2):=by rw[HG.out,if_pos ht];exact rfl
  clear ht HG
  go_enter Tryz.func66,Tryz.ntmps66
  go_wp2_with(first|(go_at_call 77;((with_reducible refine HF.out.mono ?_);rintro e w2 ⟨rfl,hb⟩;have hcl:=own_cells hb;have hfz:=own_frozen hb))|(go_at_call 76;((with_reducible refine(check_any ts _ _ _ _ hn hl (Row.alloc ((Row.alloc hr _).below hb) _)).mono ?_);rw[HT.out];rintro e w3 ⟨rfl,hb3⟩;have hb4:=(hb.alloc hb.size _).trans (hb3.mono (by have:=hb.size;simp at this;simp;omega));have hcl:=own_cells hb4;have hfz:=own_frozen hb4)))
  (try simp only[Exit.inBlock,Exit.then])
  refine bodyPost_ret (v:= .agg #[.int .i64 2,.int .i64 0,.int .i64 0,.int .i64 0,.int .i64 0]) (by simp[results,Tryz.results66,go_sem,hcl]) rfl ?_
  have hb5:=((Below.refl w.heap.size w).alloc (Nat.le_refl _) _).trans (hb4.mono (by simp))
  exact⟨by rw[HO.out];rfl,hb5.setCell (Nat.le_refl _) _|>.setCell (Nat.le_refl _) _|>.setCell (Nat.le_refl _) _|>.setCell (Nat.le_refl _) _|>.setCell (Nat.le_refl _) _⟩
 |true=>
  have HT:=Lib.hid ht
  cases ok with
  |false=>
   have HO:Hid (out=Ans.err 161):=by rw[HG.out,if_neg (by rw[ht];simp),if_pos (.inl rfl)];exact rfl
   clear ht HG
   go_enter Tryz.func66,Tryz.ntmps66
   go_wp2_with(first|(go_at_call 77;((with_reducible refine HF.out.mono ?_);rintro e w2 ⟨rfl,hb⟩;have hcl:=own_cells hb;have hfz:=own_frozen hb))|(go_at_call 76;((with_reducible refine(check_any ts _ _ _ _ hn hl (Row.alloc ((Row.alloc hr _).below hb) _)).mono ?_);rw[HT.out];rintro e w3 ⟨rfl,hb3⟩;have hb4:=(hb.alloc hb.size _).trans (hb3.mono (by have:=hb.size;simp at this;simp;omega));have hcl:=own_cells hb4;have hfz:=own_frozen hb4;have hcx:=own_cells hb3)))
   (try simp only[Exit.inBlock,Exit.then])
   refine bodyPost_ret (v:= .agg #[.int .i64 161,.int .i64 0,.int .i64 0,.int .i64 0,.int .i64 0]) (by simp[results,Tryz.results66,go_sem,hcl]) rfl ?_
   have hb5:=((Below.refl w.heap.size w).alloc (Nat.le_refl _) _).trans (hb4.mono (by simp))
   exact⟨by rw[HO.out];rfl,hb5.setCell (Nat.le_refl _) _|>.setCell (Nat.le_refl _) _|>.setCell (Nat.le_refl _) _|>.setCell (Nat.le_refl _) _|>.setCell (Nat.le_refl _) _⟩
  |true=>
   cases xgone with
   |true=>
    have HO:Hid (out=Ans.err 161):=by rw[HG.out,if_neg (by rw[ht];simp),if_pos (.inr rfl)];exact rfl
    clear ht HG
    go_enter Tryz.func66,Tryz.ntmps66
    go_wp2_with(first|(go_at_call 77;((with_reducible refine HF.out.mono ?_);rintro e w2 ⟨rfl,hb⟩;have hcl:=own_cells hb;have hfz:=own_frozen hb))|(go_at_call 76;((with_reducible refine(check_any ts _ _ _ _ hn hl (Row.alloc ((Row.alloc hr _).below hb) _)).mono ?_);rw[HT.out];rintro e w3 ⟨rfl,hb3⟩;have hb4:=(hb.alloc hb.size _).trans (hb3.mono (by have:=hb.size;simp at this;simp;omega));have hcl:=own_cells hb4;have hfz:=own_frozen hb4;have hcx:=own_cells hb3)))
    (try simp only[Exit.inBlock,Exit.then])
    refine bodyPost_ret (v:= .agg #[.int .i64 161,.int .i64 0,.int .i64 0,.int .i64 0,.int .i64 0]) (by simp[results,Tryz.results66,go_sem,hcl]) rfl ?_
    have hb5:=((Below.refl w.heap.size w).alloc (Nat.le_refl _) _).trans (hb4.mono (by simp))
    exact⟨by rw[HO.out];rfl,hb5.setCell (Nat.le_refl _) _|>.setCell (Nat.le_refl _) _|>.setCell (Nat.le_refl _) _|>.setCell (Nat.le_refl _) _|>.setCell (Nat.le_refl _) _⟩
   |false=>
    have HO:Hid (out=⟨0,xrate,xburst,0,0⟩):=by rw[HG.out,if_neg (by rw[ht];simp),if_neg (by simp)];exact rfl
    clear ht HG
    go_enter Tryz.func66,Tryz.ntmps66
    go_wp2_with(first|(go_at_call 77;((with_reducible refine HF.out.mono ?_);rintro e w2 ⟨rfl,hb⟩;have hcl:=own_cells hb;have hfz:=own_frozen hb))|(go_at_call 76;((with_reducible refine(check_any ts _ _ _ _ hn hl (Row.alloc ((Row.alloc hr _).below hb) _)).mono ?_);rw[HT.out];rintro e w3 ⟨rfl,hb3⟩;have hb4:=(hb.alloc hb.size _).trans (hb3.mono (by have:=hb.size;simp at this;simp;omega));have hcl:=own_cells hb4;have hfz:=own_frozen hb4;have hcx:=own_cells hb3)))
    (try simp only[Exit.inBlock,Exit.then])
    refine bodyPost_ret (v:= .agg #[.int .i64 0,.int .i64 xrate,.int .i64 xburst,.int .i64 0,.int .i64 0]) (by simp[results,Tryz.results66,go_sem,hcl]) rfl ?_
    have hb5:=((Below.refl w.heap.size w).alloc (Nat.le_refl _) _).trans (hb4.mono (by simp))
    exact⟨by rw[HO.out],hb5.setCell (Nat.le_refl _) _|>.setCell (Nat.le_refl _) _|>.setCell (Nat.le_refl _) _|>.setCell (Nat.le_refl _) _|>.setCell (Nat.le_refl _) _⟩
set_option maxHeartbeats 1000000 in
theorem pput_any (ts:List Tenant) (a:Option Addr) (n c:Nat) (id rate burst out:Int) (w:World) (hn:ts.length= n) (hl:ts.length≤ 1000) (hc:a= none→c= 0) (hnc:n≤ c) (hr:TRow w a ts):
 Calls Tryz.prog 64 #[.slice a n c,.int .i64 id,.int .i64 rate,.int .i64 burst,.int .i64 out] w (RetTA w a (putS ts id rate burst out)):=by
 subst hn
 have hmax:ts.length≤ maxLen:=le_maxLen (by omega)
 have hr1:TRow (w.alloc (.cells #[.int .i64 0,.int .i64 0,.int .i64 0,.int .i64 0,.int .i64 0] 40)) a ts:=Row.alloc hr _
 have HP:Hid (putS ts id rate burst out=if tensOk 0 ts=false then(ts,Ans.err 2)else if id<1∨ 16<id then(ts,Ans.err 161)else if mayB rate burst=false then(ts,Ans.err 160)
  else(withL ⟨id,rate,burst,cutI (findT ts id).1.bucket burst (max out 0),false⟩ ts,⟨0,rate,burst,0,0⟩)):=rfl
 generalize putS ts id rate burst out=res at HP ⊢
 cases ht:tensOk 0 ts with
 |false=>
  have HT:=Lib.hid ht
  have HO:Hid (res=(ts,Ans.err 2)):=by rw[HP.out,if_pos ht];exact rfl
  clear ht HP
  go_enter Tryz.func64,Tryz.ntmps64
  go_wp2_with(first|(go_at_call 76;((with_reducible refine(check_any ts _ _ _ _ rfl hmax hr1).mono ?_);rw[HT.out];rintro e w3 ⟨rfl,hb3⟩;have hcl:=own_cells hb3;have hfz:=own_frozen hb3)))
  (try simp only[Exit.inBlock,Exit.then])
  refine bodyPost_ret (v:= .tuple #[.slice a ts.length c,.agg #[.int .i64 2,.int .i64 0,.int .i64 0,.int .i64 0,.int .i64 0]]) (by simp[results,Tryz.results64,go_sem,hcl]) rfl ?_
  have hb5:=((Below.refl w.heap.size w).alloc (Nat.le_refl _) _).trans (hb3.mono (by simp))
  exact⟨a,c,by rw[HO.out];rfl,by rw[HO.out];exact hnc,hc,Near.self _ _,by rw[HO.out];exact hr.below (set5 hb5 (Nat.le_refl _) _ _ _ _ _),set5 hb5 (Nat.le_refl _) _ _ _ _ _⟩
 |true=>
  have HT:=Lib.hid ht
  by_cases hid1:id< 1
  ·have HO:Hid (res=(ts,Ans.err 161)):=by rw[HP.out,if_neg (by rw[ht];simp),if_pos (.inl hid1)];exact rfl
   clear ht HP
   go_enter Tryz.func64,Tryz.ntmps64
   go_wp2_with(first|(go_at_call 76;((with_reducible refine(check_any ts _ _ _ _ rfl hmax hr1).mono ?_);rw[HT.out];rintro e w3 ⟨rfl,hb3⟩;have hcl:=own_cells hb3;have hfz:=own_frozen hb3)))
   (try simp only[Exit.inBlock,Exit.then])
   refine bodyPost_ret (v:= .tuple #[.slice a ts.length c,.agg #[.int .i64 161,.int .i64 0,.int .i64 0,.int .i64 0,.int .i64 0]]) (by simp[results,Tryz.results64,go_sem,hcl]) rfl ?_
   have hb5:=((Below.refl w.heap.size w).alloc (Nat.le_refl _) _).trans (hb3.mono (by simp))
   exact⟨a,c,by rw[HO.out];rfl,by rw[HO.out];exact hnc,hc,Near.self _ _,by rw[HO.out];exact hr.below (set5 hb5 (Nat.le_refl _) _ _ _ _ _),set5 hb5 (Nat.le_refl _) _ _ _ _ _⟩
  by_cases hid2:16< id
  ·have HO:Hid (res=(ts,Ans.err 161)):=by rw[HP.out,if_neg (by rw[ht];simp),if_pos (.inr hid2)];exact rfl
   clear ht HP
   go_enter Tryz.func64,Tryz.ntmps64
   go_wp2_with(first|(go_at_call 76;((with_reducible refine(check_any ts _ _ _ _ rfl hmax hr1).mono ?_);rw[HT.out];rintro e w3 ⟨rfl,hb3⟩;have hcl:=own_cells hb3;have hfz:=own_frozen hb3)))
   (try simp only[Exit.inBlock,Exit.then])
   refine bodyPost_ret (v:= .tuple #[.slice a ts.length c,.agg #[.int .i64 161,.int .i64 0,.int .i64 0,.int .i64 0,.int .i64 0]]) (by simp[results,Tryz.results64,go_sem,hcl]) rfl ?_
   have hb5:=((Below.refl w.heap.size w).alloc (Nat.le_refl _) _).trans (hb3.mono (by simp))
   exact⟨a,c,by rw[HO.out];rfl,by rw[HO.out];exact hnc,hc,Near.self _ _,by rw[HO.out];exact hr.below (set5 hb5 (Nat.le_refl _) _ _ _ _ _),set5 hb5 (Nat.le_refl _) _ _ _ _ _⟩
  cases hm:mayB rate burst with
  |false=>
   have HM:=Lib.hid hm
   have HO:Hid (res=(ts,Ans.err 160)):=by rw[HP.out,if_neg (by rw[ht];simp),if_neg (by omega),if_pos hm];exact rfl
   clear ht HP hm
   go_enter Tryz.func64,Tryz.ntmps64
   go_wp2_with(first|(go_at_call 76;((with_reducible refine(check_any ts _ _ _ _ rfl hmax hr1).mono ?_);rw[HT.out];rintro e w3 ⟨rfl,hb3⟩;have hcl:=own_cells hb3;have hfz:=own_frozen hb3))|(go_at_call 115;((with_reducible refine(may_any _ _ _).mono ?_);rw[HM.out];rintro e w4 ⟨rfl,rfl⟩)))
   (try simp only[Exit.inBlock,Exit.then])
   refine bodyPost_ret (v:= .tuple #[.slice a ts.length c,.agg #[.int .i64 160,.int .i64 0,.int .i64 0,.int .i64 0,.int .i64 0]]) (by simp[results,Tryz.results64,go_sem,hcl]) rfl ?_
   have hb5:=((Below.refl w.heap.size w).alloc (Nat.le_refl _) _).trans (hb3.mono (by simp))
   exact⟨a,c,by rw[HO.out];rfl,by rw[HO.out];exact hnc,hc,Near.self _ _,by rw[HO.out];exact hr.below (set5 hb5 (Nat.le_refl _) _ _ _ _ _),set5 hb5 (Nat.le_refl _) _ _ _ _ _⟩
  |true=>
   have HM:=Lib.hid hm
   have HO:Hid (res=(withL ⟨id,rate,burst,cutI (findT ts id).1.bucket burst (max out 0),false⟩ ts,⟨0,rate,burst,0,0⟩)):=by
    rw[HP.out,if_neg (by rw[ht];simp),if_neg (by omega),if_neg (by rw[hm];simp)];exact rfl
   clear ht HP hm
   rcases hfd:findT ts id with⟨⟨xid,xrate,xburst,xbucket,xgone⟩,ok⟩
   rw[hfd]at HO
   have HFD:=Lib.hid hfd
   clear hfd
   by_cases hout:out< 0
   ·have hmo:Hid (max out 0=0):=by show _=_;omega
    go_enter Tryz.func64,Tryz.ntmps64
    go_wp2_with(first|(go_at_call 76;((with_reducible refine(check_any ts _ _ _ _ rfl hmax hr1).mono ?_);rw[HT.out];rintro e w3 ⟨rfl,hb3⟩;have hcl:=own_cells hb3;have hfz:=own_frozen hb3))|(go_at_call 115;((with_reducible refine(may_any _ _ _).mono ?_);rw[HM.out];rintro e w4 ⟨rfl,rfl⟩))|(go_at_call 77;((with_reducible refine(pfind_any ts _ _ _ _ _ rfl hmax (hr1.below hb3)).mono ?_);rw[HFD.out];rintro e w5 ⟨rfl,hb5⟩))|(go_at_call 106;((with_reducible refine(cut_any _ _ _ _).mono ?_);rintro e w6 ⟨rfl,rfl⟩))|(go_at_call 116;((with_reducible refine(with_any ts _ _ _ ⟨id,rate,burst,cutI xbucket burst 0,false⟩ _ rfl hl hc hnc (Row.alloc ((hr1.below hb3).below hb5) _)).mono ?_);rintro e w7 ⟨a7,c7,rfl,hle7,hn7,hnear7,hr7,hb7⟩;have hb57:=((Below.refl w5.heap.size w5).alloc (Nat.le_refl _) _).trans (hb7.mono (by simp));have hb37:=hb5.trans (hb57.mono hb5.size);have hb07:=hb3.trans (hb37.mono hb3.size);have hcl:=own_cells hb07;have hfz:=own_frozen hb07)))
    (try simp only[Exit.inBlock,Exit.then])
    refine bodyPost_ret (v:= .tuple #[.slice a7 (withL ⟨id,rate,burst,cutI xbucket burst 0,false⟩ ts).length c7,.agg #[.int .i64 0,.int .i64 rate,.int .i64 burst,.int .i64 0,.int .i64 0]]) (by simp[results,Tryz.results64,go_sem,hcl]) rfl ?_
    have hb8:=((Below.refl w.heap.size w).alloc (Nat.le_refl _) _).trans (hb07.mono (by simp))
    have hlt:w.heap.size< (w5.alloc (.cells #[.int .i64 id,.int .i64 rate,.int .i64 burst,.int .i64 (cutI xbucket burst 0),.bool false] 75)).heap.size:=by
     have h1:=hb3.size;have h2:=hb5.size;simp at h1;simp;omega
    rw[hmo.out]at HO
    exact⟨a7,c7,by rw[HO.out],by rw[HO.out];exact hle7,hn7,(hnear7.mono (by have h1:=hb3.size;have h2:=hb5.size;simp at h1;simp;omega)).trans' _,by rw[HO.out];exact Row.set5 hr7 (hnear7.ne hlt) _ _ _ _ _,set5 hb8 (Nat.le_refl _) _ _ _ _ _⟩
   ·have hmo:Hid (max out 0=out):=by show _=_;omega
    go_enter Tryz.func64,Tryz.ntmps64
    go_wp2_with(first|(go_at_call 76;((with_reducible refine(check_any ts _ _ _ _ rfl hmax hr1).mono ?_);rw[HT.out];rintro e w3 ⟨rfl,hb3⟩;have hcl:=own_cells hb3;have hfz:=own_frozen hb3))|(go_at_call 115;((with_reducible refine(may_any _ _ _).mono ?_);rw[HM.out];rintro e w4 ⟨rfl,rfl⟩))|(go_at_call 77;((with_reducible refine(pfind_any ts _ _ _ _ _ rfl hmax (hr1.below hb3)).mono ?_);rw[HFD.out];rintro e w5 ⟨rfl,hb5⟩))|(go_at_call 106;((with_reducible refine(cut_any _ _ _ _).mono ?_);rintro e w6 ⟨rfl,rfl⟩))|(go_at_call 116;((with_reducible refine(with_any ts _ _ _ ⟨id,rate,burst,cutI xbucket burst out,false⟩ _ rfl hl hc hnc (Row.alloc ((hr1.below hb3).below hb5) _)).mono ?_);rintro e w7 ⟨a7,c7,rfl,hle7,hn7,hnear7,hr7,hb7⟩;have hb57:=((Below.refl w5.heap.size w5).alloc (Nat.le_refl _) _).trans (hb7.mono (by simp));have hb37:=hb5.trans (hb57.mono hb5.size);have hb07:=hb3.trans (hb37.mono hb3.size);have hcl:=own_cells hb07;have hfz:=own_frozen hb07)))
    (try simp only[Exit.inBlock,Exit.then])
    refine bodyPost_ret (v:= .tuple #[.slice a7 (withL ⟨id,rate,burst,cutI xbucket burst out,false⟩ ts).length c7,.agg #[.int .i64 0,.int .i64 rate,.int .i64 burst,.int .i64 0,.int .i64 0]]) (by simp[results,Tryz.results64,go_sem,hcl]) rfl ?_
    have hb8:=((Below.refl w.heap.size w).alloc (Nat.le_refl _) _).trans (hb07.mono (by simp))
    have hlt:w.heap.size< (w5.alloc (.cells #[.int .i64 id,.int .i64 rate,.int .i64 burst,.int .i64 (cutI xbucket burst out),.bool false] 75)).heap.size:=by
     have h1:=hb3.size;have h2:=hb5.size;simp at h1;simp;omega
    rw[hmo.out]at HO
    exact⟨a7,c7,by rw[HO.out],by rw[HO.out];exact hle7,hn7,(hnear7.mono (by have h1:=hb3.size;have h2:=hb5.size;simp at h1;simp;omega)).trans' _,by rw[HO.out];exact Row.set5 hr7 (hnear7.ne hlt) _ _ _ _ _,set5 hb8 (Nat.le_refl _) _ _ _ _ _⟩
section
variable {P:Program} {e:TypeId} {α:Type} {L:Lay P e α}
theorem flatMap_setOne {xs:List α} {k r:Nat} {v:Value} {z:α} (hk:k< xs.length) (hr:r< L.size) (hz:L.cells z=(L.cells xs[k]).set r v):(xs.set k z).flatMap L.cells=(xs.flatMap L.cells).set (k*L.size+ r) v:=by
 have hp:=L.pos
 refine List.ext_getElem? fun j=> ?_
 have hjj:j/ L.size*L.size+ j%L.size= j:=by rw[Nat.mul_comm];exact Nat.div_add_mod j L.size
 have hj:j% L.size<L.size:= Nat.mod_lt _ hp
 have h1:=L.at (xs.set k z) (k:=j/ L.size) hj
 have h2:=L.at xs (k:=j/ L.size) hj
 rw[hjj]at h1 h2
 rw[h1]
 by_cases e1:j/ L.size=k
 ·rw[e1,List.getElem?_set_self hk,Option.bind_some,hz]
  rw[e1,List.getElem?_eq_getElem hk,Option.bind_some]at h2
  by_cases e2:j% L.size=r
  ·have hji:k* L.size+r= j:=by rw[←e1,←e2];exact hjj
   have hlt:j< (xs.flatMap L.cells).length:=by
    rw[L.length,←hji]
    have:=Nat.mul_le_mul_right L.size (Nat.succ_le_of_lt hk)
    rw[Nat.succ_mul]at this;omega
   rw[e2,hji,List.getElem?_set_self (by rw[L.len];exact hr),List.getElem?_set_self hlt]
  ·rw[List.getElem?_set_ne (fun h=>e2 h.symm),List.getElem?_set_ne (fun h=>e2 (by rw[←h,Nat.mul_comm,Nat.mul_add_mod,Nat.mod_eq_of_lt hr])),h2]
 ·rw[List.getElem?_set_ne (fun h=>e1 h.symm),←h2,List.getElem?_set_ne]
  intro h
  apply e1
  rw[←h,Nat.mul_comm,Nat.mul_add_div hp,Nat.div_eq_of_lt hr];rfl
theorem Mine.box {w:World} {B g:Nat} {xs:List α} (h:Mine L w B g 0 xs):Box w g (xs.flatMap L.cells):=⟨h.2.1,by rw[L.length];exact h.2.2⟩
theorem Mine.of_box {w:World} {B g:Nat} {xs:List α} (hB:B≤ g) (h:Box w g (xs.flatMap L.cells)):Mine L w B g 0 xs:=⟨hB,h.range,by have:=h.there;rw[L.length]at this;exact this⟩
theorem Mine.block {w w':World} {B g:Nat} {xs:List α} (h:Mine L w B g 0 xs) (hg:w'.heap[g]? =w.heap[g]?):Mine L w' B g 0 xs:= .of_box h.1 (h.box.block hg)
theorem wpList_store_cellM {ops:Array Oper} {rest:List Oper} {op:Oper} {a:Act} {w:World} {Q:Exit→ Act→World→ Prop} {t:TypeId} (hgd:op.guard= none) (x y:Operand) (ho:op.op= .store t x y) (hi:(P.info? t).map (·.size)=some 1)
 {B g:Nat} {xs:List α} (hm:Mine L w B g 0 xs) (k:Nat) (hk:k< xs.length) (r:Nat) (hr:r< L.size) (v:Value) (z:α) (hz:L.cells z=(L.cells xs[k]).set r v) (hx:a.eval x= .pointer (some ⟨g,k*L.size+ r,none⟩)) (hy:a.eval y=v) (hv:v.cells= #[v]) (h1:v.oneCell'= true)
 (h:∀w',Mine L w' B g 0 (xs.set k z)→Wrote g w w'→wpList P ops Q rest (a.put op.dst undef) w'):wpList P ops Q (op::rest) a w:=by
 have hlt:k* L.size+r< (xs.flatMap L.cells).length:=by
  rw[L.length]
  have:=Nat.mul_le_mul_right L.size (Nat.succ_le_of_lt hk)
  rw[Nat.succ_mul]at this;omega
 refine wpList_store_field hgd x y ho hi g (k*L.size+ r) _ v hx hy hv h1 hm.box hlt fun w' hb hw=>h w' (.of_box hm.1 ?_) hw
 rw[flatMap_setOne hk hr hz];exact hb
theorem Only.wrote {g:Nat} {w w' w'':World} (h:Only g w w') (hw:Wrote g w' w''):Only g w w'':=h.put hw.below hw.keep
end
theorem out_any (s:St) (r:Raw) (B:Nat) (id:Int) (w:World) (h:StAt w B r s) (hf:Fits s.leas) (hl2:s.leas.length≤ 900) (hid:(Lit.int .i64 id).wf=true):
 Calls Tryz.prog 41 #[r.agg,.int .i64 id] w fun e w'=>e= .returned (.int .i64 (outL s.leas id))∧Below w.heap.size w w':=by
 have HOU:=Lib.hid (fun w' (hb:Below w.heap.size w w')=>outs_any s.leas r w' h.lea.len (by omega) hf (h.lea.row.below hb))
 have HW:=Lib.hid hid
 obtain⟨term,stamp,next,⟨a1,n1,c1⟩,⟨a2,n2,c2⟩,⟨a3,n3,c3⟩,⟨a4,n4,c4⟩⟩:=r
 have HZ:Hid (∀f: Int→Option Int,(∀i,(f i).getD 0=outL s.leas i)→(f id).getD 0=outL s.leas id):=fun f h=>h id
 clear h hid
 go_enter Tryz.func41,Tryz.ntmps41
 go_wp2_with(first|(refine wpList_load_as laySt rfl (.tmp 2) rfl w.heap.size 0 rfl ⟨term,stamp,next,⟨a1,n1,c1⟩,⟨a2,n2,c2⟩,⟨a3,n3,c3⟩,⟨a4,n4,c4⟩⟩ (.agg #[.int .i64 term,.int .i64 stamp,.int .i64 next,.slice a1 n1 c1,.slice a2 n2 c2,.slice a3 n3 c3,.slice a4 n4 c4]) rfl (Box.of_alloc (Below.refl _ _)).range ?_)|(go_at_call 58;((with_reducible refine(HOU.out _ belo).mono ?_);rintro e w2 ⟨mb,mn,mf,rfl,hmap,hb2⟩;have HM:=Lib.hid hmap;clear hmap))|(refine wpList_getI keyI Tryz.underlying100 Tryz.underlying3 zero_i rfl (.tmp 6) (.tmp 7) rfl mb mn mf rfl HM.out.map id HW.out rfl ?_;rw[HZ.out mf HM.out.out]))
 go_returns
 exact⟨rfl,belo⟩
theorem cellsLea0 {w:World} {b:Nat} {t:Lease} (h:w.rangeAt b 0 t.cells):w.cell? ⟨b,0,none⟩=some (.int .i64 t.id)∧w.cell? ⟨b,1,none⟩=some (.int .i64 t.tenant)∧w.cell? ⟨b,2,none⟩=some (.int .i64 t.shaper)∧w.cell? ⟨b,3,none⟩=some (.int .i64 t.epoch)∧w.cell? ⟨b,4,none⟩=some (.int .i64 t.number)∧w.cell? ⟨b,5,none⟩=some (.int .i64 t.size)∧w.cell? ⟨b,6,none⟩=some (.int .i64 t.spent):=by
 have:=cellsLea h
 simp only[Nat.zero_add]at this
 exact this
section
variable {P:Program} {e:TypeId} {α:Type}
theorem op_store_bex {op:Oper} {a:Act} {w:World} {K:Act→ World→Prop} {Q:Exit→ Act→World→ Prop} (L:Lay P e α) (x y:Operand) (ho:op.op= .store e x y)
 (g:Nat) (z:α) (cs:List Value) (hx:a.eval x= .pointer (some ⟨g,0,none⟩)) (hy:a.eval y=L.val z) (hb:Bex w g cs) (hl:cs.length= L.size)
 (h:∀w',Bex w' g (L.cells z)→Wrote g w w'→K (a.put op.dst undef) w'):Oper.wp P op a w K Q:=by
 have ht:w.there g 0 L.size:=by rw[←hl];exact hb.box.there
 unfold Oper.wp execOp
 simp only[ho,hx,hy,Sem.run_bind,Sem.run_pure,Result.andThen_ok,L.store w g 0 z ht]
 exact h _ (hb.put (by rw[hl,L.len])) ⟨fun _ hB=>Below.setCells hB _ _ (Below.refl _ _),setCells_size _ _ _ _,fun k hk=>setCells_keep g _ _ _ k hk⟩
theorem op_field_bex {op:Oper} {a:Act} {w:World} {K:Act→ World→Prop} {Q:Exit→ Act→World→ Prop} {t:TypeId} (x y:Operand) (ho:op.op= .store t x y) (hi:(P.info? t).map (·.size)=some 1)
 (g i:Nat) (cs:List Value) (v:Value) (hx:a.eval x= .pointer (some ⟨g,i,none⟩)) (hy:a.eval y=v) (hv:v.cells= #[v]) (h1:v.oneCell'= true) (hb:Bex w g cs) (hlt:i< cs.length)
 (h:∀w',Bex w' g (cs.set i v)→Wrote g w w'→K (a.put op.dst undef) w'):Oper.wp P op a w K Q:=by
 have hth:w.there g i 1:=fun j hj=>by
  have:=hb.box.there i hlt
  obtain rfl:j= 0:=by omega
  rw[Nat.zero_add]at this;exact this
 have hrun:(storeVar t ⟨g,i,none⟩ v).run P w= .ok () (w.setCell ⟨g,i,none⟩ v):=by
  have:=run_storeCells_cells (P:=P) g i [v] 0 w (fun j hj=>by simpa using (hth j (by simpa using hj)).1) (fun j hj=>by simpa using (hth j (by simpa using hj)).2) (fun u hu=>by simp at hu;subst hu;exact h1)
  cases hq:P.info? t with
  |none=> simp[hq]at hi
  |some q=>
   have hs:q.size= 1:=by simpa[hq]using hi
   simp only[Nat.add_zero]at this
   simp[storeVar,sizeOf,typeInfo,hq,hv,hs,this,World.setCells]
 unfold Oper.wp execOp
 simp only[ho,hx,hy,Instr.storeAt,Instr.sureAddr,Sem.run_bind,Sem.run_pure,Result.andThen_ok,hrun]
 exact h _ (hb.set i v) ⟨fun B hB=>(Below.refl B w).setCell (p:=⟨g,i,none⟩) hB v,by simp,fun k hk=>Below.heap_setCell _ _ _ _ (fun e=>hk e)⟩
end
structure CmdAt (w:World) (gc:Nat) (c:WCmd) (p:PCmd):Prop where
 box:Bex w gc (cellsCmd c p)
 row:Row w p.1 (c.leases.map (Value.int .i64))
 le:c.leases.length≤ p.2
theorem CmdAt.next {w w':World} {gc:Nat} {c:WCmd} {p:PCmd} (h:CmdAt w gc c p) (hb:Below w.heap.size w w'):CmdAt w' gc c p:=⟨h.box.next hb,h.row.below hb,h.le⟩
def WayPost (w:World) (gs:Nat) (r:St× Ans) (e:Ending) (w':World):Prop:= e= .returned r.2.agg∧∃q,Bex w' gs (Raw.cells q)∧StAt w' 0 q r.1∧Only gs w w'
def Way (F:FuncId) (cap:Array Value) (f:St→ WCmd→St× Ans) (w0:World):Prop:= ∀(s:St) (q:Raw) (c:WCmd) (p:PCmd) (gs gc:Nat) (w:World),Bex w gs q.cells→StAt w 0 q s→CmdAt w gc c p→gs≠ gc→stateOk s=true→ goodWCmd c→c.leases.length≤ 1000→Below w0.heap.size w0 w→
 Calls Tryz.prog F (#[.pointer (some ⟨gs,0,none⟩),.pointer (some ⟨gc,0,none⟩)]++cap) w (WayPost w gs (f s c))
theorem inI_wf {n:Int} (h:InI n):(Lit.int .i64 n).wf=true:= Go.WalkArith.wf_i64 (by unfold InI at h;omega)
theorem size1_fields:(Tryz.prog.info? 24).map (·.size)=some 1∧(Tryz.prog.info? 25).map (·.size)=some 1∧(Tryz.prog.info? 38).map (·.size)=some 1:=⟨by kernel_rfl,by kernel_rfl,by kernel_rfl⟩
def zAns:Ans:= ⟨0,0,0,0,0⟩
theorem ans_new (w:World):Bex (w.alloc (.cells #[.int .i64 0,.int .i64 0,.int .i64 0,.int .i64 0,.int .i64 0] 40)) w.heap.size zAns.cells:=Bex.new w zAns.cells _
theorem ans_cells {w:World} {b:Nat} {t:Ans} (h:Bex w b t.cells):w.cell? ⟨b,0,none⟩=some (.int .i64 t.e)∧w.cell? ⟨b,1,none⟩=some (.int .i64 t.rate)∧w.cell? ⟨b,2,none⟩=some (.int .i64 t.burst)∧w.cell? ⟨b,3,none⟩=some (.int .i64 t.lease)∧w.cell? ⟨b,4,none⟩=some (.int .i64 t.size):=
 ⟨h.box.cell rfl,h.box.cell rfl,h.box.cell rfl,h.box.cell rfl,h.box.cell rfl⟩
theorem put_tens {w w':World} {g:Nat} {t1 t2 t3:Int} {l1 l2 l3 l4:Sli} {s:St} {ts:List Tenant} {x:Option Addr} {y:Nat} (h:StAt w 0 ⟨t1,t2,t3,l1,l2,l3,l4⟩ s) (hb:Bex w g (Raw.cells ⟨t1,t2,t3,l1,l2,l3,l4⟩)) (hw:Wrote g w w') (hle:ts.length≤ y) (hnil:x= none→y= 0) (hrow:TRow w x ts):
 StAt w' 0 ⟨t1,t2,t3,⟨x,ts.length,y⟩,l2,l3,l4⟩ {s with tens:=ts}:=by
 have h2:=h.turned (w':=w') hb (misfits_st _) (by have:=hw.size;omega) (fun k _ hk=>hw.keep k hk)
 have h3:SliAt layTen w 0 ⟨x,ts.length,y⟩ ts:=⟨rfl,hle,hnil,fun _ _ _ _=> .inl (Nat.zero_le _),hrow⟩
 exact⟨h2.term,h2.stamp,h2.next,h3.turned hb (misfits_st ⟨t1,t2,t3,l1,l2,l3,l4⟩).ten (fun k _ hk=>hw.keep k hk),h2.lea,h2.ses,h2.dsk⟩
theorem put_sess {w w':World} {g:Nat} {t1 t2 t3:Int} {l1 l2 l3 l4:Sli} {s:St} {ts:List Session} {x:Option Addr} {y:Nat} (h:StAt w 0 ⟨t1,t2,t3,l1,l2,l3,l4⟩ s) (hb:Bex w g (Raw.cells ⟨t1,t2,t3,l1,l2,l3,l4⟩)) (hw:Wrote g w w') (hle:ts.length≤ y) (hnil:x= none→y= 0) (hrow:LRow laySes w x ts):
 StAt w' 0 ⟨t1,t2,t3,l1,l2,⟨x,ts.length,y⟩,l4⟩ {s with sess:=ts}:=by
 have h2:=h.turned (w':=w') hb (misfits_st _) (by have:=hw.size;omega) (fun k _ hk=>hw.keep k hk)
 have h3:SliAt laySes w 0 ⟨x,ts.length,y⟩ ts:=⟨rfl,hle,hnil,fun _ _ _ _=> .inl (Nat.zero_le _),hrow⟩
 exact⟨h2.term,h2.stamp,h2.next,h2.ten,h2.lea,h3.turned hb (misfits_st ⟨t1,t2,t3,l1,l2,l3,l4⟩).ses (fun k _ hk=>hw.keep k hk),h2.dsk⟩
theorem StAt.wrote {w w':World} {g B:Nat} {r:Raw} {s:St} {cs:List Value} (h:StAt w B r s) (hb:Bex w g cs) (hm:Misfits cs) (hw:Wrote g w w'):StAt w' B r s:=h.turned hb hm (by have:=hw.size;omega) (fun k _ hk=>hw.keep k hk)
theorem Only.wroteNew {w w' w'':World} {g g':Nat} (h:Only g w w') (hw:Wrote g' w' w'') (hn:w.heap.size≤ g'):Only g w w'':=
 ⟨(hw.below 0 (Nat.zero_le _)).os.trans h.os,(hw.below 0 (Nat.zero_le _)).tape.trans h.tape,(hw.below 0 (Nat.zero_le _)).output.trans h.output,Nat.le_trans h.size (hw.below 0 (Nat.zero_le _)).size,fun k hk hne=>(hw.keep k (by omega)).trans (h.block k hk hne)⟩
theorem m64_mask (a:Nat) (ha:a< 18446744073709551616):bits .and .u64 (a:Int) 4294967295=((a%4294967296: Nat):Int):=by
 have h:=bits_and_u64_nat a 4294967295 ha (by omega)
 rw[show a &&& 4294967295=a% 4294967296 from Nat.and_two_pow_sub_one_eq_mod a 32]at h
 exact h
theorem m64_div (a:Nat):(a:Int)/4294967296= ((a/4294967296: Nat):Int):=by omega
theorem m64_mul (a b:Nat):(a:Int)*(b:Int)=((a*b: Nat):Int):=(Int.natCast_mul a b).symm
theorem m64_add (a b:Nat):(a:Int)+(b:Int)=((a+b: Nat):Int):=(Int.natCast_add a b).symm
theorem m64_wrap (a:Nat) (ha:a< 18446744073709551616):IntKind.u64.wrap (a:Int)=(a:Int):=by rw[IntKind.wrap_u64];omega
theorem m64_wrapM (a:Nat):IntKind.u64.wrap (a:Int)=((a%18446744073709551616: Nat):Int):=by rw[IntKind.wrap_u64];omega
set_option maxHeartbeats 1000000 in
theorem mul64_any (x y:Nat) (hx:x< 18446744073709551616) (hy:y< 18446744073709551616) (w:World):
 Calls Tryz.prog 152 #[.int .u64 x,.int .u64 y] w fun e w'=>e= .returned (.tuple #[.int .u64 ((x*y/ 18446744073709551616:Nat):Int),.int .u64 ((x*y% 18446744073709551616:Nat):Int)])∧w= w':=by
 obtain⟨bd,bt,bw,hhi⟩:=Lib.mul64_hi x y hx hy
 have ba:=Lib.half_mul_le (a:=x/ 4294967296) (b:=y/ 4294967296) (by omega) (by omega)
 have bb:=Lib.half_mul_le (a:=x/ 4294967296) (b:=y% 4294967296) (by omega) (by omega)
 have bc:=Lib.half_mul_le (a:=x% 4294967296) (b:=y/ 4294967296) (by omega) (by omega)
 have ba':x/ 4294967296*(y/4294967296)<18446744073709551616:= by omega
 have bb':x/ 4294967296*(y%4294967296)<18446744073709551616:= by omega
 have bc':x% 4294967296*(y/4294967296)<18446744073709551616:= by omega
 have bh1:x/ 4294967296*(y/4294967296)+(x/4294967296* (y%4294967296)+x% 4294967296*(y%4294967296)/4294967296)/4294967296< 18446744073709551616:=by omega
 have bh:x/ 4294967296*(y/4294967296)+(x/4294967296* (y%4294967296)+x% 4294967296*(y%4294967296)/4294967296)/4294967296+ ((x/4294967296* (y%4294967296)+x% 4294967296*(y%4294967296)/4294967296)%4294967296+ x%4294967296* (y/4294967296))/4294967296< 18446744073709551616:=by omega
 go_enter Tryz.func152,Tryz.ntmps152
 go_wp2
 simp only[m64_mask x hx,m64_mask y hy,m64_div,m64_mul,m64_add,m64_wrap _ bd,m64_wrap _ bb',m64_wrap _ bt,m64_mask _ bt,m64_wrap _ bc',m64_wrap _ bw,m64_wrap _ ba',m64_wrap _ bh1,m64_wrap _ bh,m64_wrapM (x*y)]
 rw[hhi]
 go_ret2
 exact⟨rfl,rfl⟩
theorem more1_any (b:Int) (n k:Nat) (bn bk:Nat) (w:World) (hn:n≤ 1000000) (hk:k≤ 1099511627776) (hcn:w.cell? ⟨bn,0,none⟩=some (.int .i64 n)) (hck:w.cell? ⟨bk,0,none⟩=some (.int .i64 k)):
 Calls Tryz.prog 151 #[.int .i64 b,.pointer (some ⟨bn,0,none⟩),.pointer (some ⟨bk,0,none⟩)] w fun e w'=>e= .returned (.int .i64 (broughtI b 0 2305843009213693952+((n*k: Nat):Int)))∧Below w.heap.size w w':=by
 have hp:n* k≤1000000* 1099511627776:=Nat.mul_le_mul hn hk
 have hq:n* k/18446744073709551616= 0:=by omega
 have hr:n* k%18446744073709551616= n*k:= by omega
 have hm:=mul64_any n k (by omega) (by omega) w
 rw[hq,hr]at hm
 have HM:=Lib.hid hm
 obtain⟨h1,h2⟩:=broughtI_range b 0 2305843009213693952 (by omega)
 have HB:=Lib.hid (brought_any b 0 2305843009213693952 w)
 generalize broughtI b 0 2305843009213693952=z at h1 h2 HB ⊢
 generalize hpn:n* k=p at HM hp ⊢
 clear hm hq hr hpn
 go_enter Tryz.func151,Tryz.ntmps151
 go_wp2_with(first|(go_at_call 152;((with_reducible refine HM.out.mono ?_);rintro e w' ⟨rfl,rfl⟩))|(go_at_call 104;((with_reducible refine HB.out.mono ?_);rintro e w' ⟨rfl,rfl⟩)))
 go_returns
 exact⟨rfl,Below.refl _ _⟩
theorem enter_more1 (args:Array Value) (w:World):(callFunc 151 args).run Tryz.prog w= .ok (.enter 151 args) w:=by kernel_rfl
def RetMore (w:World) (n k:Int) (e:Ending) (w':World):Prop:= e= .returned (.func (.func 151) #[] #[.pointer (some ⟨w.heap.size,0,none⟩),.pointer (some ⟨w.heap.size+1,0,none⟩)])∧
 (∀w'',Below w'.heap.size w' w''→w''.cell? ⟨w.heap.size,0,none⟩=some (.int .i64 n)∧w''.cell? ⟨w.heap.size+1,0,none⟩=some (.int .i64 k))∧Below w.heap.size w w'
theorem more_any (n k:Int) (w:World):Calls Tryz.prog 103 #[.int .i64 n,.int .i64 k] w (RetMore w n k):=by
 go_enter Tryz.func103,Tryz.ntmps103
 go_wp2
 go_returns
 refine⟨rfl,fun w'' hb=>⟨?_,?_⟩,belo⟩
 ·rw[hb.cell (p:=⟨w.heap.size,0,none⟩) (by simp;omega),World.cell?_alloc_past _ _ _ (by simp)];exact World.cell?_alloc_at _ _ _ 0 rfl
 ·rw[hb.cell (p:=⟨w.heap.size+1,0,none⟩) (by simp)]
  exact World.cell?_alloc_at #[.int .i64 k] 3 (w.heap.size+1) 0 (by simp)
end Go.Proofs.YtfdmhpohfjbpfaaGreat
