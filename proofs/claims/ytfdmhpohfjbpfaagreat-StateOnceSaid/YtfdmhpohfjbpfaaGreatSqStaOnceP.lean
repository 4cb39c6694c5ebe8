import Derived.Test.YtfdmhpohfjbpfaaGreatSq19
set_option linter.unusedVariables false
set_option linter.unusedSimpArgs false
namespace Go.Proofs.YtfdmhpohfjbpfaaGreat
def Still (s:St):Prop:= ∀x∈ s.tens,x.gone=true→ 0<outL s.leas x.id
theorem credI_zero {x:Tenant} {ls:List Lease} (h:okT x=true) (hr:tenRoom ls x=true) (ho:0≤ outL ls x.id):credT ls 0 x=x:= by
 obtain⟨h1,h2,h3,h4,h5⟩:=okT_parts h
 obtain⟨m1,m2,m3,m4⟩:=may_parts h2
 have hr:=tenRoom_iff.1 hr
 unfold credT
 split
 ·rfl
 ·have:creditI x.bucket x.rate x.burst (outL ls x.id) 0=x.bucket:= by
   unfold creditI cutI roomI
   rw[show broughtI 0 0 1099511627776=0 by decide,Int.mul_zero,Int.add_zero]
   unfold broughtI
   by_cases hb:0< x.bucket
   ·have:=hr hb
    omega
   ·omega
  rw[this]
theorem credit_zero {s:St} (h:stOk s=true) (hs:Still s):creditS s 0=s:= by
 obtain⟨h1,h2,h3,h4⟩:=stOk_parts h
 have hf:=leasOk_fits h1 h2
 have hm:s.tens.map (credT s.leas 0)=s.tens:= by
  rw[show s.tens=s.tens.map id by simp]
  simp only[List.map_map]
  refine List.map_congr_left (fun x hx=> ?_)
  exact credI_zero ((tensOk_iff.1 h1).1 x hx).2 (h4 x hx) (outL_range _ hf).1
 unfold creditS
 rw[if_pos h,hm]
 have ht:=swept_tens (s:=s) h1
 have hfl:s.tens.filter (fun x=> !goneP (outsL s.leas) x)=s.tens:= by
  rw[List.filter_eq_self]
  intro x hx
  have hid:=ten_id h1 hx
  unfold goneP
  rw[outOf_outs hid.1 hid.2]
  cases hg:x.gone with
  |false=> rfl
  |true=>
   have:=hs x hx hg
   rw[decide_eq_false (by omega)];rfl
 rw[hfl]at ht
 show{s with tens:=(sweptS s).tens}=s
 rw[ht]
theorem still_swept {s:St} (h:tensOk 0 s.tens=true):Still (sweptS s):=by
 intro x hx hg
 rw[swept_tens h,List.mem_filter]at hx
 have hid:=ten_id h hx.1
 have h2:=hx.2
 unfold goneP at h2
 rw[outOf_outs hid.1 hid.2,hg]at h2
 simp at h2
 exact h2
theorem mem_without {id:Int} {x:Tenant}:∀ {ts:List Tenant},x∈withoutL id ts→x∈ ts
 |[],h=>by simp[withoutL]at h
 |y:: ts,h=>by
  by_cases e:y.id= id
  ·rw[withoutL_cons_eq e]at h;exact List.mem_cons_of_mem _ h
  ·rw[withoutL_cons_ne e]at h
   rcases List.mem_cons.1 h with rfl|h
   ·exact List.mem_cons_self ..
   ·exact List.mem_cons_of_mem _ (mem_without h)
theorem mem_with {x y:Tenant} {ts:List Tenant} (h:y∈ withL x ts):y= x∨y∈ ts:=by
 unfold withL at h
 rcases List.mem_append.1 h with h|h
 ·exact .inr (mem_without (List.mem_of_mem_take h))
 ·rcases List.mem_cons.1 h with h|h
  ·exact .inl h
  ·exact .inr (mem_without (List.mem_of_mem_drop h))
theorem still_put {s:St} (h:Still s) (c:WCmd):Still (putC s c).1:=by
 unfold putC putS Still
 simp only
 split
 ·exact h
 ·split
  ·exact h
  ·split
   ·exact h
   ·intro x hx hg
    rcases mem_with hx with rfl|hx
    ·cases hg
    ·exact h x hx hg
theorem still_del {s:St} (h:Still s) (c:WCmd):Still (delC s c).1:=by
 unfold delC deleteS Still
 simp only
 split
 ·exact h
 ·split
  ·rename_i ho
   intro x hx hg
   rcases mem_with hx with rfl|hx
   ·exact ho
   ·exact h x hx hg
  ·intro x hx hg
   exact h x (mem_without hx) hg
theorem still_dsks {s:St} {l:List Desk} (h:Still s):Still {s with dsks:=l}:=h
theorem still_client {f:St→ WCmd→St× Ans} {s:St} {c:WCmd} (h:Still s) (hf:Still (f s c).1):Still (clientC f s c).1:=by
 unfold clientC
 by_cases h1:(askS s.sess c.client c.number).2.2≠0
 ·rw[if_pos h1];exact h
 rw[if_neg h1]
 by_cases h2:(askS s.sess c.client c.number).2.1=false
 ·rw[if_pos h2];exact h
 rw[if_neg h2]
 exact hf
theorem setS_tens {ts:List Tenant} {x:Tenant} (h:tensOk 0 ts=true):tensOk 0 (setS ts x).1=true:= by
 unfold setS
 split
 ·rename_i h2;exact h2.2
 ·exact h
theorem still_grantS {s:St} (h:stOk s=true) (sh ep nu te sz:Int):Still (grantS s sh ep nu te sz).1:=by
 have h1:=(stOk_parts h).1
 unfold grantS
 rw[if_neg (by rw[h];simp)]
 by_cases a1:argsBad sh ep nu sz
 ·rw[if_pos a1];exact still_swept h1
 rw[if_neg a1]
 by_cases a2:(findT s.tens te).2=false∨ (findT s.tens te).1.gone=true
 ·rw[if_pos a2];exact still_swept h1
 rw[if_neg a2]
 by_cases a3:64≤ s.leas.length∨1099511627776≤ s.next
 ·rw[if_pos a3];exact still_swept h1
 rw[if_neg a3]
 by_cases a4:(takeI (findT s.tens te).1.bucket sz).2≠0
 ·rw[if_pos a4];exact still_swept h1
 rw[if_neg a4]
 exact still_swept (setS_tens h1)
theorem still_grant {s:St} (h:stOk s=true) (hs:Still s) (c:WCmd):Still (grantC s c).1:=by
 have hg:Still (grantNew s c).1:=still_dsks (still_grantS h _ _ _ _ _)
 unfold grantC
 by_cases h1:deskBad c
 ·rw[if_pos h1];exact hs
 ·rw[if_neg h1]
  cases findK Desk.shaper s.dsks c.shaper with
  |none=> exact hg
  |some d=>
   simp only
   by_cases h2:deskOld c d
   ·rw[if_pos h2];exact hs
   ·rw[if_neg h2]
    by_cases h3:deskTold c d
    ·rw[if_pos h3];exact hs
    ·rw[if_neg h3];exact hg
theorem ask_kept {l:List Session} {c n:Int} {a:Ans} (h:(askS l c n).2.2=0) (h2:(askS l c n).2.1=true):askS (keepS l c n a).1 c n=(a,false,0):=by
 obtain⟨hm,hl⟩:=ask_fresh h
 obtain⟨m1,m2,m3,m4⟩:=mayS_ok hm
 obtain⟨k1,k2⟩:=keep_fresh (a:=a) h h2
 rw[k1]
 have hm2:mayS (insK Session.client ⟨c,n,a⟩ l) c n=true:= by simp[mayS,k2,m2,m3,m4]
 have hf:findS (insK Session.client ⟨c,n,a⟩ l) c=(⟨c,n,a⟩,true):=by
  unfold findS
  rw[show findK Session.client (insK Session.client ⟨c,n,a⟩ l) c=some ⟨c,n,a⟩from find_insK_self (key:=Session.client) (x:=⟨c,n,a⟩) l (chainOk_iff.1 m1).2]
 unfold askS
 rw[if_neg (by rw[hm2];simp),hf]
 simp
theorem client_twice {f:St→ WCmd→St× Ans} {s:St} {c:WCmd} (hf:(f s c).1.sess=s.sess):clientC f (clientC f s c).1 c=clientC f s c:=by
 have key:∀(t:St) (a:Ans),askS t.sess c.client c.number=(a,false,0)→clientC f t c=(t,a):=fun t a h=>by
  unfold clientC;rw[h,if_neg (by simp),if_pos rfl]
 by_cases h1:(askS s.sess c.client c.number).2.2≠0
 ·have e:clientC f s c=(s,Ans.err (askS s.sess c.client c.number).2.2):=by unfold clientC;rw[if_pos h1]
  rw[e];exact e
 by_cases h2:(askS s.sess c.client c.number).2.1=false
 ·have e:clientC f s c=(s,(askS s.sess c.client c.number).1):=by unfold clientC;rw[if_neg h1,if_pos h2]
  rw[e];exact e
 ·have e:clientC f s c=keptC c (f s c):=by unfold clientC;rw[if_neg h1,if_neg h2]
  rw[e]
  unfold keptC
  refine key _ _ ?_
  simp only
  rw[hf]
  exact ask_kept (by simpa using h1) (by simpa using h2)
theorem grantNew_dsks (s:St) (c:WCmd):(grantNew s c).1.dsks=insK Desk.shaper ⟨c.shaper,c.epoch,c.number,(grantNew s c).2⟩ s.dsks:=by
 unfold grantNew
 simp only
 rw[(grant_rest s c.shaper c.epoch c.number c.tenant c.size).2.2.2]
theorem grant_twice {s:St} {c:WCmd} (hd:dsksOk s.dsks=true):grantC (grantC s c).1 c=grantC s c:=by
 by_cases h1:deskBad c
 ·have e:grantC s c=(s,Ans.err 2):=by unfold grantC;rw[if_pos h1]
  rw[e];exact e
 have hnew:grantC (grantNew s c).1 c=grantNew s c:=by
  have hf:findK Desk.shaper (grantNew s c).1.dsks c.shaper=some ⟨c.shaper,c.epoch,c.number,(grantNew s c).2⟩:=by
   rw[grantNew_dsks]
   exact find_insK_self (key:=Desk.shaper) (x:=⟨c.shaper,c.epoch,c.number,(grantNew s c).2⟩) s.dsks (chainOk_iff.1 hd).2
  have hno:¬deskOld c ⟨c.shaper,c.epoch,c.number,(grantNew s c).2⟩:=by unfold deskOld;simp only;omega
  have hto:deskTold c ⟨c.shaper,c.epoch,c.number,(grantNew s c).2⟩:=⟨rfl,rfl⟩
  unfold grantC
  rw[if_neg h1,hf]
  simp only
  rw[if_neg hno,if_pos hto]
 cases hf:findK Desk.shaper s.dsks c.shaper with
 |none=>
  have e:grantC s c=grantNew s c:=by unfold grantC;rw[if_neg h1,hf]
  rw[e];exact hnew
 |some d=>
  by_cases h2:deskOld c d
  ·have e:grantC s c=(s,Ans.err 150):=by unfold grantC;rw[if_neg h1,hf];simp only;rw[if_pos h2]
   rw[e];exact e
  by_cases h3:deskTold c d
  ·have e:grantC s c=(s,d.answer):=by unfold grantC;rw[if_neg h1,hf];simp only;rw[if_neg h2,if_pos h3]
   rw[e];exact e
  ·have e:grantC s c=grantNew s c:=by unfold grantC;rw[if_neg h1,hf];simp only;rw[if_neg h2,if_neg h3]
   rw[e];exact hnew
theorem do_twice {s:St} {c:WCmd} (h:stateOk s=true) (h1:1≤ c.kind) (h4:c.kind≤ 4):doC (doC s c).1 c=doC s c:=by
 have e:∀t: St,doC t c=if c.kind=1 then clientC putC t c else if c.kind=2 then clientC getC t c else if c.kind=3 then clientC delC t c else grantC t c:=fun t=>by
  unfold doC
  by_cases k1:c.kind= 1
  ·rw[if_pos k1,if_pos k1]
  rw[if_neg k1,if_neg k1]
  by_cases k2:c.kind= 2
  ·rw[if_pos k2,if_pos k2]
  rw[if_neg k2,if_neg k2]
  by_cases k3:c.kind= 3
  ·rw[if_pos k3,if_pos k3]
  rw[if_neg k3,if_neg k3,if_pos (by omega)]
 rw[e,e]
 split
 ·exact client_twice rfl
 split
 ·exact client_twice rfl
 split
 ·exact client_twice rfl
 ·exact grant_twice (stateOk_parts h).2.2.2.2
theorem still_do {s:St} {c:WCmd} (h:stateOk s=true) (hs:Still s) (h1:1≤ c.kind) (h4:c.kind≤ 4):Still (doC s c).1:=by
 unfold doC
 by_cases k1:c.kind= 1
 ·rw[if_pos k1];exact still_client hs (still_put hs c)
 rw[if_neg k1]
 by_cases k2:c.kind= 2
 ·rw[if_pos k2];exact still_client hs hs
 rw[if_neg k2]
 by_cases k3:c.kind= 3
 ·rw[if_pos k3];exact still_client hs (still_del hs c)
 rw[if_neg k3,if_pos (by omega)]
 exact still_grant (stateOk_parts h).2.2.2.1 hs c
theorem client_term {f:St→ WCmd→St× Ans} {s:St} {c:WCmd} (h:(f s c).1.term=s.term):(clientC f s c).1.term=s.term:= by
 unfold clientC
 by_cases h1:(askS s.sess c.client c.number).2.2≠0
 ·rw[if_pos h1]
 ·rw[if_neg h1]
  by_cases h2:(askS s.sess c.client c.number).2.1=false
  ·rw[if_pos h2]
  ·rw[if_neg h2];exact h
theorem grantC_term (s:St) (c:WCmd):(grantC s c).1.term=s.term:= by
 have hg:(grantNew s c).1.term=s.term:= (grant_rest _ _ _ _ _ _).1
 unfold grantC
 by_cases h1:deskBad c
 ·rw[if_pos h1]
 ·rw[if_neg h1]
  cases findK Desk.shaper s.dsks c.shaper with
  |none=> exact hg
  |some d=>
   simp only
   by_cases h2:deskOld c d
   ·rw[if_pos h2]
   ·rw[if_neg h2]
    by_cases h3:deskTold c d
    ·rw[if_pos h3]
    ·rw[if_neg h3];exact hg
theorem do_term {s:St} {c:WCmd} (h1:1≤ c.kind) (h4:c.kind≤ 4):(doC s c).1.term=s.term:= by
 unfold doC
 by_cases k1:c.kind= 1
 ·rw[if_pos k1];exact client_term rfl
 rw[if_neg k1]
 by_cases k2:c.kind= 2
 ·rw[if_pos k2];exact client_term rfl
 rw[if_neg k2]
 by_cases k3:c.kind= 3
 ·rw[if_pos k3];exact client_term rfl
 rw[if_neg k3,if_pos (by omega)]
 exact grantC_term s c
theorem apply_twice {s:St} {x:WEnt} (h:stateOk s=true) (hk:x.kind= 2) (ht:1≤ x.term) (hs:0≤ x.stamp) (hr:(readC x).2.2=0) (h1:1≤ (readC x).1.kind) (h4:(readC x).1.kind≤4):applyS (applyS s x).1 x=applyS s x:=by
 have e:∀t: St,stateOk t=true→ applyS t x=doC (creditedS t x) (readC x).1:=fun t h=>by
  rw[applyS_go h ht hs (by omega) (by omega),if_neg (by omega),if_neg (by omega)]
 have hc:=credited_ok h ht hs
 have hst:Still (creditedS s x):=by
  have hq:=(stateOk_parts h).2.2.2.1
  obtain⟨p1,p2,p3,p4⟩:=stOk_parts hq
  have h0:=ticks_nonneg s x
  unfold creditedS
  rw[credit_clamp s _ h0]
  unfold creditS
  rw[if_pos hq]
  exact still_swept (s:={s with tens:=s.tens.map (credT s.leas (min (ticksS s x) 1099511627776))}) (tensOk_cred p1 (by omega) (by omega) (leasOk_fits p1 p2))
 have hok2:stateOk (applyS s x).1=true:= apply_ok h x
 rw[e _ hok2]
 have hz:creditedS (applyS s x).1 x=(applyS s x).1:=by
  rw[e s h]at hok2 ⊢
  have t1:(doC (creditedS s x) (readC x).1).1.term=x.term:= (do_term h1 h4).trans rfl
  have t2:(doC (creditedS s x) (readC x).1).1.stamp=x.stamp:= (doC_stamp _ _).trans rfl
  have t3:=still_do hc hst h1 h4
  generalize(doC (creditedS s x) (readC x).1).1=t at hok2 t1 t2 t3 ⊢
  have hq:=(stateOk_parts hok2).2.2.2.1
  have hk:ticksS t x=0:= by unfold ticksS;rw[if_pos t1.symm,t2];omega
  unfold creditedS
  rw[hk,credit_zero hq t3,←t1,←t2]
 rw[hz,e s h]
 exact do_twice hc h1 h4
end Go.Proofs.YtfdmhpohfjbpfaaGreat
