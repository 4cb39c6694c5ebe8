import Derived.Test.YtfdmhpohfjbpfaaGreatSq07
set_option linter.unusedVariables false
set_option linter.unusedSimpArgs false
namespace Go.Proofs.YtfdmhpohfjbpfaaGreat
theorem found_iff {ts:List Tenant} {id:Int} (h:tensOk 0 ts=true):(findT ts id).2=true↔ ∃x,findO ts id=some x:=by
 rw[findT_eq id h]
 cases findO ts id with
 |none=> simp
 |some x=>simp
theorem leasOk_tens {ts ts':List Tenant} {n n':Int} {ls:List Lease} (h:leasOk ts n ls=true) (hn:n≤ n') (hf:∀id,(findT ts id).2=true→ (findT ts' id).2=true):leasOk ts' n' ls=true:= by
 obtain⟨h1,h2⟩:=chainOk_iff.1 h
 refine chainOk_iff.2 ⟨fun x hx=>⟨(h1 x hx).1,?_⟩,h2⟩
 have h3:=(h1 x hx).2
 unfold leaGood at h3 ⊢
 simp only[Bool.and_eq_true,decide_eq_true_eq]at h3 ⊢
 exact⟨hf _ h3.1,by omega⟩
theorem setS_facts {ts:List Tenant} {x:Tenant} (h:tensOk 0 ts=true) (hx:0< x.id) (ho:okT x=true):
 setS ts x=(withL x ts,0)∧tensOk 0 (withL x ts)=true∧ findO (withL x ts) x.id=some x∧∀other,other≠x.id→ findO (withL x ts) other=findO ts other:=by
 obtain⟨f1,f2,f3⟩:=withL_facts h hx ho
 exact⟨by unfold setS;rw[if_pos ⟨h,f1⟩],f1,f2,f3⟩
theorem with_found {ts:List Tenant} {x:Tenant} (h:tensOk 0 ts=true) (hx:0< x.id) (ho:okT x=true) (id:Int) (hf:(findT ts id).2=true):(findT (withL x ts) id).2=true:= by
 obtain⟨f1,f2,f3⟩:=withL_facts h hx ho
 rw[found_iff f1]
 by_cases he:id= x.id
 ·exact⟨x,by rw[he];exact f2⟩
 ·rw[f3 id he];exact(found_iff h).1 hf
theorem with_mem {ts:List Tenant} {x y:Tenant} (h:tensOk 0 ts=true) (hx:0< x.id) (ho:okT x=true) (hy:y∈ withL x ts):y= x∨(y∈ts∧ y.id≠x.id):=by
 obtain⟨f1,f2,f3⟩:=withL_facts h hx ho
 have h1:=findO_of_mem (tensOk_iff.1 f1).2 hy
 by_cases he:y.id= x.id
 ·left;rw[he,f2]at h1;simpa using h1.symm
 ·right;rw[f3 _ he]at h1;exact⟨(findO_mem h1).1,he⟩
theorem buck_with {ts:List Tenant} {x:Tenant} (h:tensOk 0 ts=true) (hx:0< x.id) (ho:okT x=true) (id:Int):buck (withL x ts) id=if id=x.id then x.bucket else buck ts id:=by
 obtain⟨f1,f2,f3⟩:=withL_facts h hx ho
 unfold buck
 rw[findT_eq id f1]
 by_cases he:id= x.id
 ·rw[if_pos he,he,f2]
 ·rw[if_neg he,f3 id he,findT_eq id h]
theorem okT_parts {x:Tenant} (h:okT x=true):x.id≤ 16∧mayB x.rate x.burst=true∧ 0≤x.bucket∧ x.bucket≤1000000000∧ (x.gone=true→ x.rate=0∧ x.burst=0∧ x.bucket=0):=by
 unfold okT ask2 ask3 ask4 at h
 simp only[Bool.and_eq_true,decide_eq_true_eq]at h
 refine⟨h.1.1.1,h.1.1.2,h.1.2.1,h.1.2.2,fun hg=> ?_⟩
 have:=h.2
 rw[hg]at this
 simpa using this
theorem okT_mk {x:Tenant} (h1:x.id≤ 16) (h2:mayB x.rate x.burst=true) (h3:0≤ x.bucket∧x.bucket≤ 1000000000) (h4:x.gone= false):okT x=true:= by
 unfold okT ask2 ask3 ask4
 simp only[Bool.and_eq_true,decide_eq_true_eq,h4]
 exact⟨⟨⟨h1,h2⟩,h3⟩,rfl⟩
theorem may_parts {r b:Int} (h:mayB r b=true):0≤ r∧r≤ 1000000∧0≤ b∧b≤ 1000000:=by
 unfold mayB at h;simpa using h
theorem tenRoom_iff {ls:List Lease} {t:Tenant}:tenRoom ls t=true↔ (0<t.bucket→ t.bucket+1000* outL ls t.id≤1000* t.burst):=by
 unfold tenRoom;exact decide_eq_true_iff
theorem findT_mem {ts:List Tenant} {id:Int} (h:tensOk 0 ts=true) (hf:(findT ts id).2=true):(findT ts id).1∈ts∧ (findT ts id).1.id=id:= by
 obtain⟨x,hx⟩:=(found_iff h).1 hf
 rw[findT_eq id h,hx]
 exact findO_mem hx
theorem grant_ok {s:St} (h:stOk s=true) (sh ep nu te sz:Int):stOk (grantS s sh ep nu te sz).1=true∧
 (∀id,buck (grantS s sh ep nu te sz).1.tens id+1000* outL (grantS s sh ep nu te sz).1.leas id=buck s.tens id+1000* outL s.leas id)∧
 ((grantS s sh ep nu te sz).2.e=0→ outL (grantS s sh ep nu te sz).1.leas te=outL s.leas te+sz):=by
 obtain⟨h1,h2,h3,h4⟩:=stOk_parts h
 have href:∀e: Int,e≠0→ stOk (sweptS s,Ans.err e).1=true∧ (∀id,buck (sweptS s,Ans.err e).1.tens id+1000* outL (sweptS s,Ans.err e).1.leas id=buck s.tens id+1000* outL s.leas id)∧
  ((sweptS s,Ans.err e).2.e=0→ outL (sweptS s,Ans.err e).1.leas te=outL s.leas te+sz):=fun e he=>
  ⟨stOk_swept h1 h2 h3 h4,fun id=>by simp only;rw[buck_swept h1];rfl,fun h0=>absurd h0 he⟩
 unfold grantS
 rw[if_neg (by rw[h];simp)]
 by_cases c1:argsBad sh ep nu sz
 ·rw[if_pos c1];exact href 2 (by decide)
 rw[if_neg c1]
 by_cases c2:(findT s.tens te).2=false∨ (findT s.tens te).1.gone=true
 ·rw[if_pos c2];exact href 161 (by decide)
 rw[if_neg c2]
 by_cases c3:64≤ s.leas.length∨1099511627776≤ s.next
 ·rw[if_pos c3];exact href 100 (by decide)
 rw[if_neg c3]
 by_cases c4:(takeI (findT s.tens te).1.bucket sz).2≠0
 ·rw[if_pos c4];exact href _ c4
 rw[if_neg c4]
 simp only[not_or,Bool.not_eq_false,Bool.not_eq_true]at c2
 unfold argsBad at c1
 have htk:takeI (findT s.tens te).1.bucket sz=((findT s.tens te).1.bucket-1000* sz,0)∧1000* sz≤(findT s.tens te).1.bucket:=by
  unfold takeI at c4 ⊢
  split at c4
  ·exact absurd (by decide) c4
  ·rename_i hc
   rw[if_neg hc]
   exact⟨rfl,by omega⟩
 obtain⟨htk,hle⟩:=htk
 rw[htk]
 obtain⟨m1,m2⟩:=findT_mem h1 c2.1
 have hok:=(tensOk_iff.1 h1).1 _ m1
 have hbk:buck s.tens te=(findT s.tens te).1.bucket:=rfl
 generalize(findT s.tens te).1=x at*
 obtain⟨p1,p2,p3,p4,p5⟩:=okT_parts hok.2
 have hid:0< ({x with bucket:=x.bucket- 1000*sz}:Tenant).id:=hok.1
 have hko:okT {x with bucket:=x.bucket- 1000*sz}=true:= okT_mk p1 p2 ⟨by show 0≤x.bucket- 1000*sz;omega,by show x.bucket-1000* sz≤_;omega⟩ c2.2
 obtain⟨f0,f1,f2,f3⟩:=setS_facts h1 hid hko
 simp only
 rw[f0]
 have hout:∀id,outL (s.leas++[⟨s.next,te,sh,ep,nu,sz,0⟩]) id=outL s.leas id+if te=id then sz else 0:=fun id=>by
  rw[outL_append];simp[outL]
 have hfit:=leasOk_fits h1 h2
 refine⟨stOk_swept f1 ?_ ⟨by simp;omega,by show 1≤s.next+ 1;omega,by show s.next+1≤ _;omega⟩ ?_,fun id=> ?_,fun _=> ?_⟩
 ·show leasOk (withL _ s.tens) (s.next+1) (s.leas++[_])=true
  obtain⟨l1,l2⟩:=chainOk_iff.1 (leasOk_tens h2 (show s.next≤s.next+ 1 by omega) (with_found h1 hid hko))
  refine chainOk_iff.2 ⟨fun y hy=> ?_,?_⟩
  ·rcases List.mem_append.1 hy with hy|hy
   ·exact l1 y hy
   ·rw[List.mem_singleton.1 hy]
    refine⟨by show 0<s.next;omega,?_⟩
    unfold leaGood
    simp only[Bool.and_eq_true,decide_eq_true_eq]
    exact⟨with_found h1 hid hko te c2.1,by omega⟩
  ·refine List.pairwise_append.2 ⟨l2,List.pairwise_singleton _ _,fun y hy z hz=> ?_⟩
   rw[List.mem_singleton.1 hz]
   have:=((chainOk_iff.1 h2).1 y hy).2
   unfold leaGood at this
   simp only[Bool.and_eq_true,decide_eq_true_eq]at this
   exact this.2.1
 ·intro y hy
  show tenRoom (s.leas++[_]) y=true
  rw[tenRoom_iff,hout]
  rcases with_mem h1 hid hko hy with rfl|⟨hy,hne⟩
  ·have h5:=tenRoom_iff.1 (h4 _ m1)
   simp only at h5 ⊢
   intro _
   rw[if_pos m2.symm]
   have:=h5 (by omega)
   omega
  ·have h5:=tenRoom_iff.1 (h4 _ hy)
   rw[if_neg (by simp only at hne;omega)]
   simpa using h5
 ·show buck (sweptS {s with tens:=withL {x with bucket:=x.bucket- 1000*sz} s.tens,leas:=s.leas++ [⟨s.next,te,sh,ep,nu,sz,0⟩],next:=s.next+ 1}).tens id+1000* outL (s.leas++[⟨s.next,te,sh,ep,nu,sz,0⟩]) id=_
  rw[buck_swept f1,hout]
  show buck (withL {x with bucket:=x.bucket- 1000*sz} s.tens) id+_= _
  rw[buck_with h1 hid hko]
  simp only
  by_cases he:id= x.id
  ·rw[if_pos he,if_pos (by omega)]
   have:buck s.tens id=x.bucket:= by rw[he,m2];exact hbk
   omega
  ·rw[if_neg he,if_neg (by omega)];omega
 ·show outL (s.leas++[⟨s.next,te,sh,ep,nu,sz,0⟩]) te=_
  rw[hout,if_pos rfl]
theorem outL_spend {le sp:Int} (id:Int):∀ {l:List Lease},(∀y∈ l,y.id=le→ y.spent≤sp)→outL (spendL le sp l) id≤outL l id
 |[],_=>Int.le_refl _
 |y:: l,h=>by
  have h1:=h y (List.mem_cons_self ..)
  have h2:=outL_spend (le:=le) (sp:=sp) id (fun z hz=>h z (List.mem_cons_of_mem _ hz))
  unfold spendL at h2 ⊢
  rw[List.map_cons,outL,outL]
  by_cases he:y.id= le
  ·rw[if_pos he]
   have:=h1 he
   simp only
   split<;>omega
  ·rw[if_neg he];omega
theorem rising_eq {l:List Lease} (h:Rising l) {x y:Lease} (hx:x∈ l) (hy:y∈ l) (he:x.id= y.id):x= y:=by
 obtain⟨i,hi,rfl⟩:=List.mem_iff_getElem.1 hx
 obtain⟨j,hj,rfl⟩:=List.mem_iff_getElem.1 hy
 by_cases hij:i= j
 ·subst hij;rfl
 ·exact absurd he (h.apart hi hj hij)
theorem leasOk_spend {ts:List Tenant} {n:Int} {ls:List Lease} {x:Lease} {sp:Int} (h:leasOk ts n ls=true) (hx:x∈ ls) (h1:x.spent≤ sp) (h2:sp< x.size):leasOk ts n (spendL x.id sp ls)=true:= by
 obtain⟨c1,c2⟩:=chainOk_iff.1 h
 refine chainOk_iff.2 ⟨fun y hy=> ?_,?_⟩
 ·unfold spendL at hy
  obtain⟨z,hz,rfl⟩:=List.mem_map.1 hy
  have h3:=c1 z hz
  by_cases he:z.id= x.id
  ·rw[if_pos he]
   have:=rising_eq (leasOk_rising h) hz hx he
   subst this
   unfold leaGood at h3 ⊢
   simp only[Bool.and_eq_true,decide_eq_true_eq]at h3 ⊢
   exact⟨h3.1,h3.2.1,by omega⟩
  ·rw[if_neg he];exact h3
 ·unfold spendL
  rw[List.pairwise_map]
  refine c2.imp fun{a b} hab=> ?_
  split<;>split<;>simpa using hab
theorem outL_drop {l:List Lease} {x:Lease} (id:Int) (h:Rising l) (hx:x∈ l):outL l id=outL (dropL x.id l) id+if x.tenant=id then x.size-x.spent else 0:=by
 induction l with
 |nil=> cases hx
 |cons y l ih=>
  have h2:=List.pairwise_cons.1 h
  unfold dropL at ih ⊢
  rw[List.filter_cons,outL]
  rcases List.mem_cons.1 hx with rfl|hx
  ·rw[if_neg (show ¬((!decide (x.id=x.id))=true) by simp)]
   have:(l.filter fun y=> !decide (y.id=x.id))=l:= List.filter_eq_self.2 fun y hy=>by have:=h2.1 y hy;simp;omega
   rw[this];omega
  ·have:=h2.1 x hx
   rw[if_pos (show(!decide (y.id=x.id))=true by simp;omega),outL,ih h2.2 hx];omega
theorem find_leaIs {l:List Lease} {sh ep le:Int} {x:Lease} (h:l.find? (leaIs sh ep le)=some x):x∈ l∧x.id= le∧x.shaper= sh∧x.epoch= ep:=by
 have h1:=List.find?_some h
 unfold leaIs at h1
 exact⟨List.mem_of_find?_eq_some h,by simpa using h1⟩
theorem lea_parts {ts:List Tenant} {n:Int} {ls:List Lease} {x:Lease} (h:leasOk ts n ls=true) (hx:x∈ ls):(findT ts x.tenant).2=true∧ 1≤x.size∧ x.size≤1000000∧ 0≤x.spent∧ x.spent<x.size:= by
 have:=((chainOk_iff.1 h).1 x hx).2
 unfold leaGood at this
 simp only[Bool.and_eq_true,decide_eq_true_eq]at this
 exact⟨this.1,by omega⟩
theorem cut_room {b burst out:Int} (h2:0≤ burst∧burst≤ 1000000) (ho:0≤ out) (h:0< cutI b burst out):cutI b burst out+1000* out≤1000* burst:=by
 have h1:=(cutI_range b burst out).2
 generalize cutI b burst out=c at*
 unfold roomI broughtI at h1
 omega
theorem report_ok {s:St} (h:stOk s=true) (sh ep le sp:Int) (cl:Bool):stOk (reportS s sh ep le sp cl).1=true∧
 ∀id,buck (reportS s sh ep le sp cl).1.tens id+1000* outL (reportS s sh ep le sp cl).1.leas id≤buck s.tens id+1000* outL s.leas id:=by
 obtain⟨h1,h2,h3,h4⟩:=stOk_parts h
 have href:∀e: Int,stOk (sweptS s,e).1=true∧ (∀id,buck (sweptS s,e).1.tens id+1000* outL (sweptS s,e).1.leas id≤buck s.tens id+1000* outL s.leas id):=fun e=>
  ⟨stOk_swept h1 h2 h3 h4,fun id=>by simp only;rw[buck_swept h1];exact Int.le_refl _⟩
 unfold reportS
 rw[if_neg (by rw[h];simp)]
 cases hf:s.leas.find? (leaIs sh ep le)with
 |none=> exact href 180
 |some x=>
  simp only
  obtain⟨hx,rfl,-,-⟩:=find_leaIs hf
  obtain⟨q1,q2,q3,q4,q5⟩:=lea_parts h2 hx
  have hfit:=leasOk_fits h1 h2
  have hris:=leasOk_rising h2
  by_cases c1:sp< x.spent∨x.size< sp
  ·rw[if_pos c1];exact href 2
  rw[if_neg c1]
  by_cases c2:cl= false∧sp< x.size
  ·rw[if_pos c2]
   have hsp:∀id,outL (spendL x.id sp s.leas) id≤outL s.leas id:=fun id=>outL_spend id fun y hy he=>by
    have:=rising_eq hris hy hx he;subst this;omega
   have hlen:(spendL x.id sp s.leas).length=s.leas.length:= by unfold spendL;exact List.length_map _
   refine⟨stOk_swept h1 (leasOk_spend h2 hx (by omega) c2.2) ⟨by show(spendL x.id sp s.leas).length≤64;omega,h3.2⟩ (fun y hy=>tenRoom_less (h4 y hy) (hsp _)),fun id=> ?_⟩
   rw[buck_swept (s:={s with leas:=spendL x.id sp s.leas}) h1]
   have:=hsp id
   show buck s.tens id+1000* outL (spendL x.id sp s.leas) id≤_
   omega
  rw[if_neg c2]
  have hlen:=List.length_filter_le (fun y:Lease=> !decide (y.id=x.id)) s.leas
  have hdr:∀id,outL (dropL x.id s.leas) id≤outL s.leas id:=fun id=>outL_filter _ id hfit
  by_cases c3:cl= true∧(findT s.tens x.tenant).1.gone=false
  ·rw[if_pos c3]
   obtain⟨m1,m2⟩:=findT_mem h1 q1
   have hok:=(tensOk_iff.1 h1).1 _ m1
   have hbk:buck s.tens x.tenant=(findT s.tens x.tenant).1.bucket:=rfl
   have hgo:=c3.2
   have hob:=outL_drop x.tenant hris hx
   rw[if_pos rfl]at hob
   have hor:=outL_range x.tenant (hfit.sub (m:=dropL x.id s.leas) fun y hy=>(List.mem_filter.1 hy).1)
   unfold backT
   generalize(findT s.tens x.tenant).1=t at*
   obtain⟨p1,p2,p3,p4,p5⟩:=okT_parts hok.2
   have hmay:=may_parts p2
   have hbb:backI t.bucket t.burst (outL (dropL x.id s.leas) x.tenant) (x.size-sp)=cutI (t.bucket+1000* (x.size-sp)) t.burst (outL (dropL x.id s.leas) x.tenant):=by
    unfold backI
    have e1:broughtI t.bucket 0 2305843009213693952=t.bucket:= by unfold broughtI;omega
    have e2:broughtI (x.size-sp) 0 1000000=x.size- sp:=by unfold broughtI;omega
    rw[e1,e2]
   rw[hbb]
   have hc1:=cutI_range (t.bucket+1000* (x.size-sp)) t.burst (outL (dropL x.id s.leas) x.tenant)
   have hc2:=roomI_range t.burst (outL (dropL x.id s.leas) x.tenant)
   have hc3:=cutI_le (t.bucket+1000* (x.size-sp)) t.burst (outL (dropL x.id s.leas) x.tenant) (by omega)
   have hc4:=fun hp=>cut_room (b:=t.bucket+ 1000*(x.size-sp)) (out:=outL (dropL x.id s.leas) x.tenant) hmay.2.2 hor.1 hp
   generalize hcu:cutI (t.bucket+1000* (x.size-sp)) t.burst (outL (dropL x.id s.leas) x.tenant)=c at*
   have hid:0< ({t with bucket:=c}:Tenant).id:=hok.1
   have hko:okT {t with bucket:=c}=true:= okT_mk p1 p2 ⟨hc1.1,by show c≤_;omega⟩ hgo
   obtain⟨f0,f1,f2,f3⟩:=setS_facts h1 hid hko
   rw[f0]
   refine⟨stOk_swept f1 (leasOk_filter _ (leasOk_tens h2 (Int.le_refl _) (with_found h1 hid hko))) ⟨by show(s.leas.filter _).length≤64;omega,h3.2⟩ ?_,fun id=> ?_⟩
   ·intro y hy
    show tenRoom (dropL x.id s.leas) y=true
    rcases with_mem h1 hid hko hy with rfl|⟨hy,hne⟩
    ·rw[tenRoom_iff]
     simp only
     intro hp
     rw[m2]
     exact hc4 hp
    ·exact tenRoom_less (h4 y hy) (hdr _)
   ·show buck (sweptS {s with leas:=dropL x.id s.leas,tens:=withL {t with bucket:=c} s.tens}).tens id+1000* outL (dropL x.id s.leas) id≤_
    rw[buck_swept f1]
    show buck (withL {t with bucket:=c} s.tens) id+_≤ _
    rw[buck_with h1 hid hko]
    simp only
    by_cases he:id= t.id
    ·rw[if_pos he]
     have e3:id= x.tenant:=by omega
     subst e3
     omega
    ·rw[if_neg he]
     have:=hdr id
     omega
  ·rw[if_neg c3]
   refine⟨stOk_swept h1 (leasOk_filter _ h2) ⟨by show(s.leas.filter _).length≤64;omega,h3.2⟩ (fun y hy=>tenRoom_less (h4 y hy) (hdr _)),fun id=> ?_⟩
   rw[buck_swept (s:={s with leas:=dropL x.id s.leas,tens:=s.tens}) h1]
   have:=hdr id
   show buck s.tens id+1000* outL (dropL x.id s.leas) id≤_
   omega
theorem credT_id (ls:List Lease) (k:Int) (t:Tenant):(credT ls k t).id=t.id∧ (credT ls k t).gone=t.gone∧ (credT ls k t).rate=t.rate∧ (credT ls k t).burst=t.burst:= by
 unfold credT;split<;>exact ⟨rfl,rfl,rfl,rfl⟩
theorem findO_map {f:Tenant→ Tenant} (hf:∀t,(f t).id=t.id) (id:Int):∀ts: List Tenant,findO (ts.map f) id=(findO ts id).map f
 |[]=>rfl
 |x:: l=>by
  have ih:=findO_map hf id l
  unfold findO at ih ⊢
  rw[List.map_cons,List.find?_cons,List.find?_cons,hf]
  split
  ·rfl
  ·exact ih
theorem credI_facts {t:Tenant} {out k:Int} (h:okT t=true) (hk:0≤ k) (hk2:k≤ 1099511627776) (ho:0≤ out):
 0≤creditI t.bucket t.rate t.burst out k∧creditI t.bucket t.rate t.burst out k≤1000000000∧ creditI t.bucket t.rate t.burst out k≤t.bucket+ t.rate*k∧
 (0<creditI t.bucket t.rate t.burst out k→creditI t.bucket t.rate t.burst out k+1000* out≤1000* t.burst):=by
 obtain⟨p1,p2,p3,p4,p5⟩:=okT_parts h
 have hmay:=may_parts p2
 have e1:broughtI t.bucket 0 2305843009213693952=t.bucket:= by unfold broughtI;omega
 have e2:broughtI t.rate 0 1000000=t.rate:= by unfold broughtI;omega
 have e3:broughtI k 0 1099511627776=k:= by unfold broughtI;omega
 unfold creditI
 rw[e1,e2,e3]
 have hp:0≤ t.rate*k:= Int.mul_nonneg hmay.1 hk
 generalize t.rate*k= m at*
 have hc1:=cutI_range (t.bucket+m) t.burst out
 have hc2:=roomI_range t.burst out
 exact⟨hc1.1,by omega,cutI_le _ _ _ (by omega),fun hp=>cut_room hmay.2.2 ho hp⟩
theorem tensOk_cred {ts:List Tenant} {ls:List Lease} {k:Int} (h:tensOk 0 ts=true) (hk:0≤ k) (hk2:k≤ 1099511627776) (hf:Fits ls):tensOk 0 (ts.map (credT ls k))=true:= by
 obtain⟨h1,h2⟩:=tensOk_iff.1 h
 refine tensOk_iff.2 ⟨fun y hy=> ?_,?_⟩
 ·obtain⟨x,hx,rfl⟩:=List.mem_map.1 hy
  obtain⟨h3,h4⟩:=h1 x hx
  refine⟨by rw[(credT_id _ _ _).1];exact h3,?_⟩
  unfold credT
  split
  ·exact h4
  ·rename_i hg
   obtain⟨p1,p2,p3,p4,p5⟩:=okT_parts h4
   obtain⟨c1,c2,-,-⟩:=credI_facts h4 hk hk2 (outL_range x.id hf).1
   exact okT_mk p1 p2 ⟨c1,c2⟩ (by simpa using hg)
 ·rw[List.pairwise_map]
  exact h2.imp fun{a b} hab=>by rw[(credT_id _ _ _).1,(credT_id _ _ _).1];exact hab
theorem cred_found {ts:List Tenant} {ls:List Lease} {k:Int} (h:tensOk 0 ts=true) (h':tensOk 0 (ts.map (credT ls k))=true) (id:Int) (hf:(findT ts id).2=true):(findT (ts.map (credT ls k)) id).2=true:= by
 rw[found_iff h']
 obtain⟨x,hx⟩:=(found_iff h).1 hf
 exact⟨credT ls k x,by rw[findO_map (fun t=>(credT_id _ _ t).1),hx];rfl⟩
theorem credit_ok {s:St} (h:stOk s=true) (k:Int) (hk:0≤ k) (hk2:k≤ 1099511627776):stOk (creditS s k)=true∧ (creditS s k).leas=s.leas∧
 ∀id,buck (creditS s k).tens id≤buck s.tens id+(findT s.tens id).1.rate*k:= by
 obtain⟨h1,h2,h3,h4⟩:=stOk_parts h
 have hfit:=leasOk_fits h1 h2
 have h1':=tensOk_cred h1 hk hk2 hfit
 have he:creditS s k=sweptS {s with tens:=s.tens.map (credT s.leas k)}:=by unfold creditS;rw[if_pos h]
 rw[he]
 refine⟨stOk_swept h1' (leasOk_tens h2 (Int.le_refl _) (cred_found h1 h1')) h3 ?_,rfl,fun id=> ?_⟩
 ·intro y hy
  obtain⟨x,hx,rfl⟩:=List.mem_map.1 hy
  show tenRoom s.leas _=true
  have h5:=((tensOk_iff.1 h1).1 x hx).2
  unfold credT
  split
  ·exact h4 x hx
  ·rw[tenRoom_iff]
   exact(credI_facts h5 hk hk2 (outL_range x.id hfit).1).2.2.2
 ·rw[buck_swept (s:={s with tens:=s.tens.map (credT s.leas k)}) h1']
  unfold buck
  simp only
  rw[findT_eq id h1',findT_eq id h1,findO_map (fun t=>(credT_id _ _ t).1)]
  cases hf:findO s.tens id with
  |none=> simp[zeroT]
  |some x=>
   have h5:=((tensOk_iff.1 h1).1 x (findO_mem hf).1).2
   show(credT s.leas k x).bucket≤x.bucket+ x.rate*k
   unfold credT
   split
   ·have:=Int.mul_nonneg (may_parts (okT_parts h5).2.1).1 hk
    omega
   ·exact(credI_facts h5 hk hk2 (outL_range x.id hfit).1).2.2.1
end Go.Proofs.YtfdmhpohfjbpfaaGreat
