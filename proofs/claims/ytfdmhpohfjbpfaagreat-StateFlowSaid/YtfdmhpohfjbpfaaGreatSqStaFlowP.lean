import Derived.Test.YtfdmhpohfjbpfaaGreatSqStaCapP
set_option linter.unusedVariables false
set_option linter.unusedSimpArgs false
namespace Go.Proofs.YtfdmhpohfjbpfaaGreat
def newG:List Lease→Int→ Int→Int
 |[],_,_=>0
 |x:: l,next,id=>(if next≤x.id∧ x.tenant=id then x.size else 0)+newG l next id
theorem newG_append (l m:List Lease) (next id:Int):newG (l++m) next id=newG l next id+newG m next id:=by
 induction l with
 |nil=> simp[newG]
 |cons x l ih=>rw [List.cons_append,newG,newG,ih];omega
theorem newG_take {l:List Lease} {k:Nat} (h:k< l.length) (next id:Int):newG (l.take (k+1)) next id=newG (l.take k) next id+(if next≤l[k].id∧l[k].tenant=id then l[k].size else 0):=by
 rw[List.take_succ_eq_append_getElem h,newG_append]
 simp[newG]
theorem newG_zero {l:List Lease} {next id:Int} (h:∀x∈ l,x.id<next):newG l next id=0:= by
 induction l with
 |nil=> rfl
 |cons x l ih=>
  rw[newG,ih (fun y hy=>h y (List.mem_cons_of_mem _ hy)),if_neg (by have:=h x (List.mem_cons_self ..);omega)]
  rfl
theorem newG_range {l:List Lease} {next id:Int} (h:∀x∈ l,0≤x.size∧ x.size≤1000000):0≤ newG l next id∧newG l next id≤1000000* l.length:=by
 induction l with
 |nil=> exact⟨Int.le_refl _,by simp[newG]⟩
 |cons x l ih=>
  have:=ih (fun y hy=>h y (List.mem_cons_of_mem _ hy))
  have hx:=h x (List.mem_cons_self ..)
  rw[newG,List.length_cons]
  split<;>omega
theorem lea_below {s:St} (h:stOk s=true):∀x∈ s.leas,x.id<s.next:= fun x hx=>by
 have:=(chainOk_iff.1 (stOk_parts h).2.1).1 x hx
 have h2:=this.2
 unfold leaGood at h2
 simp only[Bool.and_eq_true,decide_eq_true_eq]at h2
 omega
theorem client_leas {f:St→ WCmd→St× Ans} {s:St} {c:WCmd} (h:(f s c).1.leas=s.leas):(clientC f s c).1.leas=s.leas:= by
 unfold clientC
 by_cases h1:(askS s.sess c.client c.number).2.2≠0
 ·rw[if_pos h1]
 rw[if_neg h1]
 by_cases h2:(askS s.sess c.client c.number).2.1=false
 ·rw[if_pos h2]
 rw[if_neg h2]
 exact h
theorem client_buck {f:St→ WCmd→St× Ans} {s:St} {c:WCmd} {id:Int} (h:buck (f s c).1.tens id≤buck s.tens id):buck (clientC f s c).1.tens id≤buck s.tens id:=by
 unfold clientC
 by_cases h1:(askS s.sess c.client c.number).2.2≠0
 ·rw[if_pos h1];exact Int.le_refl _
 rw[if_neg h1]
 by_cases h2:(askS s.sess c.client c.number).2.1=false
 ·rw[if_pos h2];exact Int.le_refl _
 rw[if_neg h2]
 exact h
theorem grant_leas (s:St) (sh ep nu te sz:Int):(grantS s sh ep nu te sz).1.leas=s.leas∨ (grantS s sh ep nu te sz).1.leas=s.leas++ [⟨s.next,te,sh,ep,nu,sz,0⟩]:=by
 unfold grantS
 by_cases a0:stOk s=false
 ·rw[if_pos a0];exact .inl rfl
 rw[if_neg a0]
 by_cases a1:argsBad sh ep nu sz
 ·rw[if_pos a1];exact .inl rfl
 rw[if_neg a1]
 by_cases a2:(findT s.tens te).2=false∨ (findT s.tens te).1.gone=true
 ·rw[if_pos a2];exact .inl rfl
 rw[if_neg a2]
 by_cases a3:64≤ s.leas.length∨1099511627776≤ s.next
 ·rw[if_pos a3];exact .inl rfl
 rw[if_neg a3]
 by_cases a4:(takeI (findT s.tens te).1.bucket sz).2≠0
 ·rw[if_pos a4];exact .inl rfl
 rw[if_neg a4]
 exact .inr rfl
theorem grant_flow {s:St} (h:stOk s=true) (sh ep nu te sz id:Int):1000* newG (grantS s sh ep nu te sz).1.leas s.next id+buck (grantS s sh ep nu te sz).1.tens id=buck s.tens id:=by
 have hs:=(grant_ok h sh ep nu te sz).2.1 id
 have hz:=newG_zero (id:=id) (lea_below h)
 rcases grant_leas s sh ep nu te sz with e|e
 ·rw[e]at hs ⊢
  rw[hz];omega
 ·rw[e,outL_append]at hs
  rw[e,newG_append,hz]
  simp only[newG,outL]at hs ⊢
  by_cases ht:te= id
  ·rw[if_pos ht]at hs
   rw[if_pos ⟨Int.le_refl _,ht⟩]
   omega
  ·rw[if_neg ht]at hs
   rw[if_neg (fun q=>ht q.2)]
   omega
theorem grantC_flow {s:St} (h:stOk s=true) (c:WCmd) (id:Int):1000* newG (grantC s c).1.leas s.next id+buck (grantC s c).1.tens id≤buck s.tens id:=by
 have hz:=newG_zero (id:=id) (lea_below h)
 have hs:1000* newG s.leas s.next id+buck s.tens id≤buck s.tens id:=by omega
 have hg:1000* newG (grantNew s c).1.leas s.next id+buck (grantNew s c).1.tens id≤buck s.tens id:=Int.le_of_eq (grant_flow h c.shaper c.epoch c.number c.tenant c.size id)
 unfold grantC
 by_cases h1:deskBad c
 ·rw[if_pos h1];exact hs
 ·rw[if_neg h1]
  cases findK Desk.shaper s.dsks c.shaper with
  |none=> exact hg
  |some d=>
   simp only
   by_cases h2:deskOld c d
   ·rw[if_pos h2];exact hs
   ·rw[if_neg h2]
    by_cases h3:deskTold c d
    ·rw[if_pos h3];exact hs
    ·rw[if_neg h3];exact hg
theorem report_flow {s:St} (h:stOk s=true) (sh ep le sp:Int) (cl:Bool) (id:Int):
 newG (reportS s sh ep le sp cl).1.leas s.next id=0∧ (cl=false→ buck (reportS s sh ep le sp cl).1.tens id=buck s.tens id):=by
 have hb:=lea_below h
 have h1:=(stOk_parts h).1
 have hsw:newG (sweptS s).leas s.next id=0∧ (cl=false→ buck (sweptS s).tens id=buck s.tens id):=⟨newG_zero hb,fun _=>buck_swept h1 id⟩
 unfold reportS
 rw[if_neg (by rw[h];simp)]
 cases s.leas.find? (leaIs sh ep le)with
 |none=> exact hsw
 |some x=>
  simp only
  by_cases a1:sp< x.spent∨x.size< sp
  ·rw[if_pos a1];exact hsw
  rw[if_neg a1]
  by_cases a2:cl= false∧sp< x.size
  ·rw[if_pos a2]
   refine⟨newG_zero (fun y hy=> ?_),fun _=>buck_swept (s:={s with leas:=spendL le sp s.leas}) h1 id⟩
   have hy:y∈ spendL le sp s.leas:=hy
   unfold spendL at hy
   obtain⟨z,hz,rfl⟩:=List.mem_map.1 hy
   have:=hb z hz
   split<;>exact this
  rw[if_neg a2]
  refine⟨newG_zero (fun y hy=> ?_),fun hc=> ?_⟩
  ·have hy:y∈ dropL le s.leas:=hy
   exact hb y (List.mem_filter.1 hy).1
  ·subst hc
   have:=buck_swept (s:={s with leas:=dropL le s.leas,tens:=s.tens}) h1 id
   rw[if_neg (by simp)]
   exact this
def backD (s t:St) (c:WCmd) (id:Int):Int:= if c.kind=5∧ c.closed=true then 1000*max (outL s.leas id-outL t.leas id) 0 else 0
theorem backD_nonneg (s t:St) (c:WCmd) (id:Int):0≤ backD s t c id:=by unfold backD;split<;>omega
theorem do_flow {s:St} (h:stateOk s=true) (c:WCmd) (id:Int):1000* newG (doC s c).1.leas s.next id+buck (doC s c).1.tens id≤buck s.tens id+backD s (doC s c).1 c id:=by
 have hq:=(stateOk_parts h).2.2.2.1
 have hz:=newG_zero (id:=id) (lea_below hq)
 have hbk:=backD_nonneg s (doC s c).1 c id
 have hcl:∀f: St→WCmd→ St×Ans,(f s c).1.leas=s.leas→ buck (f s c).1.tens id≤buck s.tens id→1000* newG (clientC f s c).1.leas s.next id+buck (clientC f s c).1.tens id≤buck s.tens id:=fun f e1 e2=>by
  rw[client_leas e1,hz]
  have:=client_buck (c:=c) e2
  omega
 by_cases k1:c.kind= 1
 ·have e:doC s c=clientC putC s c:=by unfold doC;rw[if_pos k1]
  rw[e]at hbk ⊢
  have:=hcl putC rfl ((put_ok hq c.tenant c.rate c.burst).2 id)
  omega
 by_cases k2:c.kind= 2
 ·have e:doC s c=clientC getC s c:=by unfold doC;rw[if_neg k1,if_pos k2]
  rw[e]at hbk ⊢
  have:=hcl getC rfl (Int.le_refl _)
  omega
 by_cases k3:c.kind= 3
 ·have e:doC s c=clientC delC s c:=by unfold doC;rw[if_neg k1,if_neg k2,if_pos k3]
  rw[e]at hbk ⊢
  have:=hcl delC rfl ((del_ok hq c.tenant).2 id)
  omega
 by_cases k4:c.kind= 4
 ·have e:doC s c=grantC s c:=by unfold doC;rw[if_neg k1,if_neg k2,if_neg k3,if_pos k4]
  rw[e]at hbk ⊢
  have:=grantC_flow hq c id
  omega
 by_cases k5:c.kind= 5
 ·have e:(doC s c).1=(reportS s c.shaper c.epoch c.lease c.spent c.closed).1:=by unfold doC;rw[if_neg k1,if_neg k2,if_neg k3,if_neg k4,if_pos k5];rfl
  obtain⟨r1,r2⟩:=report_flow hq c.shaper c.epoch c.lease c.spent c.closed id
  have r3:=(report_ok hq c.shaper c.epoch c.lease c.spent c.closed).2 id
  rw[e,r1]
  unfold backD
  cases hc:c.closed with
  |false=>
   have:=r2 hc
   rw[hc]at this
   rw[if_neg (by simp)]
   omega
  |true=>
   rw[hc]at r3
   rw[if_pos ⟨k5,rfl⟩]
   omega
 by_cases k6:c.kind= 6
 ·have e:(doC s c).1=expireS s c.leases:=by unfold doC;rw[if_neg k1,if_neg k2,if_neg k3,if_neg k4,if_neg k5,if_pos k6];rfl
  rw[e]at hbk ⊢
  have hl:newG (expireS s c.leases).leas s.next id=0:= newG_zero (fun y hy=>by
   unfold expireS at hy
   rw[if_pos hq]at hy
   exact lea_below hq y (List.mem_filter.1 hy).1)
  have hbb:buck (expireS s c.leases).tens id=buck s.tens id:=by
   unfold expireS
   rw[if_pos hq]
   exact buck_swept (s:={s with leas:=s.leas.filter fun x=> !c.leases.contains x.id}) (stOk_parts hq).1 id
  omega
 ·have e:(doC s c).1=s:= by unfold doC;rw[if_neg k1,if_neg k2,if_neg k3,if_neg k4,if_neg k5,if_neg k6]
  rw[e]at hbk ⊢
  omega
def backF (s t:St) (x:WEnt) (id:Int):Int:= if(readC x).2.2=0∧ (readC x).1.kind=5∧ (readC x).1.closed=true then 1000*max (outL s.leas id-outL t.leas id) 0 else 0
theorem backF_nonneg (s t:St) (x:WEnt) (id:Int):0≤ backF s t x id:=by unfold backF;split<;>omega
theorem apply_flow {s:St} (h:stateOk s=true) (x:WEnt) (id:Int):1000* newG (applyS s x).1.leas s.next id+buck (applyS s x).1.tens id≤buck s.tens id+(findT s.tens id).1.rate*ticksC s x+backF s (applyS s x).1 x id:=by
 have hq:=(stateOk_parts h).2.2.2.1
 have hb:=buck_range (stOk_parts hq).1 id
 have ht:=ticksC_nonneg s x
 have hm:0≤ (findT s.tens id).1.rate*ticksC s x:=Int.mul_nonneg hb.2.2.1 ht.1
 have hz:=newG_zero (id:=id) (lea_below hq)
 have hbk:=backF_nonneg s (applyS s x).1 x id
 by_cases hx:stateOk s=false∨ x.term<1∨ x.stamp<0∨ x.kind<0∨ 2<x.kind
 ·rw[applyS_bad hx]at hbk ⊢
  simp only at hbk ⊢
  omega
 have e:=applyS_go h (x:=x) (by omega) (by omega) (by omega) (by omega)
 obtain⟨g1,g2⟩:=credited_sum h (x:=x) (by omega) id
 have gn:(creditedS s x).next=s.next:= (credit_rest s (ticksS s x)).2.2.1
 by_cases k:x.kind≠ 2
 ·rw[if_pos k]at e
  rw[e]at hbk ⊢
  simp only at hbk ⊢
  rw[g2]at*
  omega
 rw[if_neg k]at e
 by_cases k2:(readC x).2.2≠0
 ·rw[if_pos k2]at e
  rw[e]at hbk ⊢
  simp only at hbk ⊢
  rw[g2]at*
  omega
 rw[if_neg k2]at e
 have hd:=do_flow (credited_ok h (x:=x) (by omega) (by omega)) (readC x).1 id
 rw[e]at hbk ⊢
 have eb:backD (creditedS s x) (doC (creditedS s x) (readC x).1).1 (readC x).1 id=backF s (doC (creditedS s x) (readC x).1).1 x id:=by
  unfold backD backF
  rw[g2]
  by_cases q:(readC x).1.kind=5∧ (readC x).1.closed=true
  ·rw[if_pos q,if_pos ⟨by simpa using k2,q⟩]
  ·rw[if_neg q,if_neg (fun z=>q z.2)]
 rw[eb,gn]at hd
 omega
end Go.Proofs.YtfdmhpohfjbpfaaGreat
