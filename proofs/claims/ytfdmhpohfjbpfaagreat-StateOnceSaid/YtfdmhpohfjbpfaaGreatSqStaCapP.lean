import Derived.Test.YtfdmhpohfjbpfaaGreatSq19
set_option linter.unusedVariables false
set_option linter.unusedSimpArgs false
namespace Go.Proofs.YtfdmhpohfjbpfaaGreat
def bkF (ts:List Tenant) (id:Int):Int× Int×Int:= match ts.find? (fun x=>x.id== id)with|some t=>(t.bucket,t.rate,t.burst)|none=> (0,0,0)
theorem bkF_eq {ts:List Tenant} (h:tensOk 0 ts=true) (id:Int):bkF ts id=(buck ts id,(findT ts id).1.rate,(findT ts id).1.burst):=by
 unfold bkF buck
 rw[findT_eq id h]
 unfold findO
 cases ts.find? (fun x=>x.id== id)with
 |none=> rfl
 |some t=>rfl
def ticksC (s:St) (x:WEnt):Int:= if 1≤x.term∧ x.term=s.term∧ s.stamp<x.stamp then min (x.stamp-s.stamp) 4294967296 else 0
theorem ticksC_nonneg (s:St) (x:WEnt):0≤ ticksC s x∧ticksC s x≤4294967296:= by unfold ticksC;split<;>omega
theorem buck_range {ts:List Tenant} (h:tensOk 0 ts=true) (id:Int):0≤ buck ts id∧buck ts id≤1000000000∧ 0≤(findT ts id).1.rate∧(findT ts id).1.rate≤1000000∧ 0≤(findT ts id).1.burst∧(findT ts id).1.burst≤1000000:= by
 unfold buck
 rw[findT_eq id h]
 cases hf:findO ts id with
 |none=> simp[zeroT]
 |some t=>
  obtain⟨p1,p2,p3,p4,p5⟩:=okT_parts ((tensOk_iff.1 h).1 t (findO_mem hf).1).2
  obtain⟨m1,m2,m3,m4⟩:=may_parts p2
  exact⟨p3,p4,m1,m2,m3,m4⟩
theorem client_sum {f:St→ WCmd→St× Ans} {s:St} {c:WCmd} {id:Int} (h:sumS (f s c).1 id≤sumS s id):sumS (clientC f s c).1 id≤sumS s id:=by
 unfold clientC
 by_cases h1:(askS s.sess c.client c.number).2.2≠0
 ·rw[if_pos h1];exact Int.le_refl _
 rw[if_neg h1]
 by_cases h2:(askS s.sess c.client c.number).2.1=false
 ·rw[if_pos h2];exact Int.le_refl _
 rw[if_neg h2]
 exact h
theorem grantC_sum {s:St} (h:stOk s=true) (c:WCmd) (id:Int):sumS (grantC s c).1 id≤sumS s id:=by
 have hg:sumS (grantNew s c).1 id≤sumS s id:=Int.le_of_eq ((grant_ok h c.shaper c.epoch c.number c.tenant c.size).2.1 id)
 unfold grantC
 by_cases h1:deskBad c
 ·rw[if_pos h1];exact Int.le_refl _
 ·rw[if_neg h1]
  cases findK Desk.shaper s.dsks c.shaper with
  |none=> exact hg
  |some d=>
   simp only
   by_cases h2:deskOld c d
   ·rw[if_pos h2];exact Int.le_refl _
   ·rw[if_neg h2]
    by_cases h3:deskTold c d
    ·rw[if_pos h3];exact Int.le_refl _
    ·rw[if_neg h3];exact hg
theorem do_sum {s:St} (h:stateOk s=true) (c:WCmd) (id:Int):sumS (doC s c).1 id≤sumS s id:=by
 have hq:=(stateOk_parts h).2.2.2.1
 unfold doC
 by_cases k1:c.kind= 1
 ·rw[if_pos k1]
  refine client_sum ?_
  have:=(put_ok hq c.tenant c.rate c.burst).2 id
  unfold putC sumS
  simp only
  omega
 rw[if_neg k1]
 by_cases k2:c.kind= 2
 ·rw[if_pos k2];exact client_sum (Int.le_refl _)
 rw[if_neg k2]
 by_cases k3:c.kind= 3
 ·rw[if_pos k3]
  refine client_sum ?_
  have:=(del_ok hq c.tenant).2 id
  unfold delC sumS
  simp only
  omega
 rw[if_neg k3]
 by_cases k4:c.kind= 4
 ·rw[if_pos k4];exact grantC_sum hq c id
 rw[if_neg k4]
 by_cases k5:c.kind= 5
 ·rw[if_pos k5];exact(report_ok hq _ _ _ _ _).2 id
 rw[if_neg k5]
 by_cases k6:c.kind= 6
 ·rw[if_pos k6];exact(expire_ok hq _).2 id
 rw[if_neg k6]
 exact Int.le_refl _
theorem credited_sum {s:St} (h:stateOk s=true) {x:WEnt} (h1:1≤ x.term) (id:Int):buck (creditedS s x).tens id≤buck s.tens id+(findT s.tens id).1.rate*ticksC s x∧(creditedS s x).leas=s.leas:= by
 have hq:=(stateOk_parts h).2.2.2.1
 obtain⟨c1,c2,c3⟩:=credited_st hq x
 refine⟨?_,c2⟩
 have c4:=c3 id
 have hb:=buck_range (stOk_parts hq).1 id
 have hb2:=buck_range (stOk_parts c1).1 id
 have e:buck (creditedS s x).tens id=buck (creditS s (ticksS s x)).tens id:=rfl
 rw[e]
 generalize buck (creditS s (ticksS s x)).tens id=B at c4 hb2
 generalize(findT s.tens id).1.rate=rt at c4 hb ⊢
 unfold ticksS at c4
 unfold ticksC
 by_cases ht:x.term= s.term
 ·rw[if_pos ht]at c4
  by_cases hd:s.stamp< x.stamp
  ·rw[if_pos ⟨h1,ht,hd⟩]
   by_cases h32:x.stamp- s.stamp≤4294967296
   ·rw[show min (max (x.stamp-s.stamp) 0) 1099511627776=x.stamp- s.stamp by omega]at c4
    rw[show min (x.stamp-s.stamp) 4294967296=x.stamp- s.stamp by omega]
    exact c4
   ·rw[show min (x.stamp-s.stamp) 4294967296=4294967296 by omega]
    by_cases hr:rt= 0
    ·rw[hr,Int.zero_mul]at c4
     rw[hr];omega
    ·omega
  ·rw[if_neg (by omega),Int.mul_zero]
   rw[show min (max (x.stamp-s.stamp) 0) 1099511627776=0 by omega,Int.mul_zero]at c4
   exact c4
 ·rw[if_neg (by omega),Int.mul_zero]
  rw[if_neg ht,show min (0:Int) 1099511627776=0 by decide,Int.mul_zero]at c4
  exact c4
theorem apply_sum {s:St} (h:stateOk s=true) (x:WEnt) (id:Int):sumS (applyS s x).1 id≤sumS s id+(findT s.tens id).1.rate*ticksC s x:=by
 have hb:=buck_range (stOk_parts (stateOk_parts h).2.2.2.1).1 id
 have ht:=ticksC_nonneg s x
 have hm:0≤ (findT s.tens id).1.rate*ticksC s x:=Int.mul_nonneg hb.2.2.1 ht.1
 unfold applyS
 split
 ·simp only;omega
 ·rename_i hx
  obtain⟨g1,g2⟩:=credited_sum h (x:=x) (by omega) id
  have hcs:sumS (creditedS s x) id≤sumS s id+(findT s.tens id).1.rate*ticksC s x:=by
   unfold sumS;rw[g2];omega
  split
  ·exact hcs
  ·split
   ·exact hcs
   ·exact Int.le_trans (do_sum (credited_ok h (by omega) (by omega)) _ id) hcs
theorem cap_room {s:St} (h:stOk s=true) (id:Int) (hb:0< buck s.tens id):buck s.tens id+1000* outL s.leas id≤1000* (findT s.tens id).1.burst:=by
 obtain⟨h1,h2,h3,h4⟩:=stOk_parts h
 unfold buck at hb ⊢
 rw[findT_eq id h1]at hb ⊢
 cases hf:findO s.tens id with
 |none=> rw[hf]at hb;simp[zeroT]at hb
 |some t=>
  rw[hf]at hb
  obtain⟨m1,m2⟩:=findO_mem hf
  have:=tenRoom_iff.1 (h4 t m1) hb
  rw[m2]at this
  exact this
end Go.Proofs.YtfdmhpohfjbpfaaGreat
