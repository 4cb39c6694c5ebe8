import Derived.Test.YtoeofkcpclfnhaaGreatSr21
set_option linter.unusedVariables false
set_option linter.unusedSimpArgs false
namespace Go.Proofs.YtoeofkcpclfnhaaGreat.Raf
set_option maxHeartbeats 16000000
variable {x:Sys WEnt} {T N k:Nat} {n:RN}
theorem inSet_and(a b j:Nat):inSet (a &&& b) j=(inSet a j&&inSet b j):=by
 unfold inSet;rw[←Bool.decide_and,decide_eq_decide];have e:∀s: Nat,s/2^ (j-1)%2= 1↔s.testBit (j-1)=true:= fun s=>by
  rw[Nat.testBit_eq_decide_div_mod_eq];simp
 rw[e,e,e,Nat.testBit_and,Bool.and_eq_true];constructor
 ·rintro⟨h1,h2,h3,h4⟩;exact⟨⟨h1,h2,h3⟩,h1,h2,h4⟩
 ·rintro⟨⟨h1,h2,h3⟩,_,_,h4⟩;exact⟨h1,h2,h3,h4⟩
theorem maj_bits{s y:Nat}(h:majB s y=true):Maj (fun j=>inSet s j) (fun j=>inSet y j):=by
 have h':=of_decide_eq_true h;unfold Maj;rw[num_size];have e:(fun j=>inSet s j&&inSet y j)=fun j=>inSet (s &&& y) j:=funext fun j=>(inSet_and s y j).symm
 rw[e,num_size];exact h'
theorem matOf_beg(set:Nat)(self last:Int)(j:Int):∀i,matOf (beg set self last i) j=0
 |0=> rfl
 |i+ 1=>by
  unfold beg;have h:=matOf_beg set self last j i;generalize beg set self last i=l at h ⊢;have key:∀(l:List Prg) (q:List Prg),matOf l j=0→ (∀p∈ q,p.mat=0)→matOf (l++q) j=0:= fun l q=>by
   induction l with
   |nil=>
    intro _ hq
    induction q with
    |nil=> rfl
    |cons a q ih=>
     show(if a.node=j then a.mat else matOf q j)=0
     split
     ·exact hq a (List.mem_cons_self ..)
     ·exact ih fun p hp=>hq p (List.mem_cons_of_mem _ hp)
   |cons a l ih=>
    intro h1 hq;have h1':(if a.node=j then a.mat else matOf l j)=0:= h1;show(if a.node=j then a.mat else matOf (l++q) j)=0
    split
    ·rename_i e;rw[if_pos e]at h1';exact h1'
    ·rename_i e;rw[if_neg e]at h1';exact ih h1' hq
  refine key l _ h fun p hp=> ?_
  split at hp
  ·rw[List.mem_singleton.1 hp]
  ·cases hp
theorem good_put{l:List WEnt}{t:Int}{e:WEnt}(h:goodEs 0 l=true)(hm:mayE (lastT 0 l) e=true):goodEs 0 (l++[e])=true:= by
 rw[goodEs_append,h];show(true&&(mayE (lastT 0 l) e&&true))=true
 rw[hm];rfl
theorem tq55 {P:Prop}(h:P:=by
 show(upd x.ns k _ v).term≤_
 by_cases e:v= k
 ·subst e;rw[upd_same];exact h.tb v
 ·rw[upd_ne _ _ e];exact h.tb v):P:=h
theorem to_lead(h:Ok x T N)(r:Rep n (x.ns k))(hs:n.self= k)(hr:n.role= 1)(hm:majB n.set n.yes.toNat=true)(hN:N< 4096)(now:Int):
 To x T (N+1) k (putEF {n with role:=2,known:=n.self,p:=beginF 0 0 n.es n.set n.self,beat:=now} ⟨n.hT,0,0,0,[]⟩) []∧putEF {n with role:=2,known:=n.self,p:=beginF 0 0 n.es n.set n.self,beat:=now} ⟨n.hT,0,0,0,[]⟩={n with role:=2,known:=n.self,p:=beginF 0 0 n.es n.set n.self,beat:=now,es:=n.es++ [⟨n.hT,0,0,0,[]⟩]}:=by
 have hrn:(x.ns k).role=1:= r.role_nat hr;have hmaj:Maj (lat cfE c7 (x.ns k).log) (x.ns k).yes:=by
  rw[r.set,r.yes];exact maj_bits hm
 obtain⟨_,h2,h3,_⟩:=h.inv.cand k hrn;rw[r.term,r.log,lt_lastT]at h2;rw[r.term]at h3;obtain⟨hg,hl⟩:=h.good (h.inv.log k);rw[r.log]at hg hl
 have hge:goodEs 0 (n.es++[⟨n.hT,0,0,0,[]⟩])=true:= good_put (t:=n.hT) hg (by
  unfold mayE;refine decide_eq_true ⟨h3,Int.le_of_lt h2,Int.le_refl _,Int.le_refl _,(show(0:Int)≤2 by decide),?_,.inr rfl,Nat.zero_le _⟩;constructor
  ·intro e;exact absurd (show(0:Int)=1 from e) d_
  ·intro e;exact absurd rfl e)
 have hok:okR 0 0 (n.es++[⟨n.hT,0,0,0,[]⟩])=true:= ok_of hge (by rw[List.length_append];show n.es.length+1≤ 4096;omega);have he:putEF {n with role:=2,known:=n.self,p:=beginF 0 0 n.es n.set n.self,beat:=now} ⟨n.hT,0,0,0,[]⟩={n with role:=2,known:=n.self,p:=beginF 0 0 n.es n.set n.self,beat:=now,es:=n.es++ [⟨n.hT,0,0,0,[]⟩]}:=if_pos hok;refine⟨?_,he⟩;rw[he];have htm:(⟨n.hT,0,0,0,[]⟩:WEnt).term=(x.ns k).term:=r.term.symm;have hcf:cfE ⟨n.hT,0,0,0,[]⟩=none:= if_neg (show ¬(0:Int)=1 by decide);refine⟨winS x k ⟨n.hT,0,0,0,[]⟩,⟨h.inv.win hrn hmaj htm hcf,fun t=> ?_,fun t=> ?_,fun v=> ?_⟩,Ext.win h.inv hrn hmaj _,fun j hj=>upd_ne _ _ hj,?_,fun _ hm=>by cases hm⟩
 ·show goodEs 0 (updT x.g.L _ _ t)=true
  by_cases e:t= (x.ns k).term
  ·subst e;rw[updT_same,r.log];exact hge
  ·rw[updT_ne _ _ e];exact h.ge t
 ·show(updT x.g.L _ _ t).length≤_
  by_cases e:t= (x.ns k).term
  ·subst e;rw[updT_same,r.log,List.length_append];show n.es.length+1≤ _;omega
  ·rw[updT_ne _ _ e];have:=h.len t;omega
 ·exact tq55
 ·show Rep _ (upd x.ns k _ k)
  rw[upd_same];refine⟨r.term,r.vote,by show(x.ns k).log++_= _;rw[r.log],rfl,r.com,r.yes,fun j=> ?_,r.base⟩;show((0:Nat):Int)=matOf (beginF 0 0 n.es n.set n.self) j
  unfold beginF
  split
  ·rw[matOf_beg];rfl
  ·rfl
theorem termR_get{l:List WEnt}{i:Nat}(h:i≤ l.length):termR 0 0 l i=lt WEnt.term (l.take i):=by
 unfold termR;rw[if_pos o_,Int.sub_zero,Int.toNat_natCast];rcases i with _|i
 ·rfl
 ·rw[terms_succ o_,lt_take _ o_]
theorem to_count(h:Ok x T N)(r:Rep n (x.ns k))(hs:n.self= k):To x T N k (countF n) []:=by
 unfold countF
 split
 ·rename_i hr
  have hrn:(x.ns k).role=2:= r.role_nat hr;show To x T N k (if(commitF 0 0 n.es n.set n.self n.hT n.com n.p).2=0 then{n with com:=(commitF 0 0 n.es n.set n.self n.hT n.com n.p).1}else n) []
  split
  ·rename_i hok
   unfold commitF at hok ⊢
   split at hok
   ·split at hok
    ·exact absurd hok d_
    ·rename_i h1 h2
     rw[if_pos h1,if_neg h2];show To x T N k {n with com:=comR 0 0 n.es n.set n.self n.hT n.com n.p} []
     unfold comR;rcases bestUp_is (f:=comAt 0 0 n.es n.set n.self n.hT n.p) (lo:=max n.com 0) (c:=n.com) (0+(n.es.length:Int)-max n.com 0).toNat with e|⟨e1,e2,e3⟩
     ·rw[e];exact To.here h r
     ·generalize bestUp (comAt 0 0 n.es n.set n.self n.hT n.p) (max n.com 0) n.com (0+(n.es.length:Int)-max n.com 0).toNat=i at e1 e2 e3 ⊢;obtain⟨i',rfl⟩:∃i': Nat,i=i':= ⟨i.toNat,by omega⟩;have hi1:1≤ i':=o_;have hil:i'≤ n.es.length:=o_;unfold comAt at e1;rw[Bool.and_eq_true]at e1;have t1:=of_decide_eq_true e1.1;have t2:=of_decide_eq_true e1.2;rw[termR_get hil]at t1;have hlog:=r.log;have hil':i'≤ (x.ns k).log.length:=by rw[hlog];exact hil
      have ht:((x.ns k).log[i'-1]'o_).term=(x.ns k).term:=by
       have e5:=lt_take WEnt.term (l:=n.es) (k:=i'- 1) o_;rw[show i'-1+ 1=i' by omega,t1]at e5;rw[get_congr hlog o_ o_,←e5,r.term]
      have hinv:=h.inv.count (q:=fun j=>decide ((j:Int)=n.self)||decide ((i':Int)≤matOf n.p j)) hrn hi1 hil' ht (by
       rw[r.set];exact maj_com t2) (fun j hj=>by
       have hj':(decide ((j:Int)=n.self)||decide ((i':Int)≤matOf n.p j))=true:= hj;rw[Bool.or_eq_true]at hj';rcases hj' with h6|h6
       ·have:=of_decide_eq_true h6;left;omega
       ·have:=of_decide_eq_true h6;right;have:=r.mat j;omega)
      refine⟨comS x k i',⟨hinv,h.ge,h.len,fun v=> ?_⟩,Ext.count x k i',fun j hj=>upd_ne _ _ hj,?_,fun _ hm=>by cases hm⟩
      ·exact tq55
      ·show Rep _ (upd x.ns k _ k)
       rw[upd_same];exact⟨r.term,r.vote,r.log,r.role,rfl,r.yes,r.mat,r.base⟩
   ·exact absurd hok d_
  ·exact To.here h r
 ·exact To.here h r
theorem okM_send(h:Ok x T N)(r:Rep n (x.ns k))(hs:n.self= k)(hr:n.role= 2)(hk1:1≤ k)(hk7:k≤ 7)(j:Nat):OkM x (sendF n j):=by
 have hrn:(x.ns k).role=2:= r.role_nat hr;obtain⟨⟨e,hel⟩,hL,_⟩:=h.inv.lead k hrn;have hp:=h.inv.hist.pos _ _ _ hel;obtain⟨hc1,hc2⟩:=h.inv.com k;rw[r.term]at hel hL hp hc2;rw[r.log]at hL hc1 hc2;refine⟨k,j,hs,rfl,hk1,hk7,(show(1:Int)≤3 by decide),(show(3:Int)≤4 by decide),hp,fun e=>absurd (show(3:Int)=1 from e) d_,fun e=>absurd (show(3:Int)=2 from e) d_,fun _=> ?_,fun e=>absurd (show(3:Int)=4 from e) d_⟩;have hcom:n.com= ((x.ns k).com:Nat):=r.com.symm;show ∃e i c,x.g.el n.hT=some (k,e)∧(askF 0 0 n.es (progF n j).next 16).1=(i:Nat)∧i≤ (x.g.L n.hT).length∧(askF 0 0 n.es (progF n j).next 16).2.1=lt WEnt.term ((x.g.L n.hT).take i)∧(askF 0 0 n.es (progF n j).next 16).2.2.2.2=((x.g.L n.hT).drop i).take (askF 0 0 n.es (progF n j).next 16).2.2.2.2.length∧n.com= (c:Nat)∧c≤ (x.g.L n.hT).length∧ComT x.g n.hT ((x.g.L n.hT).take c)
 rw[←hL];generalize(progF n j).next=nx;have hz:∃e i c,x.g.el n.hT=some (k,e)∧(0:Int)=(i:Nat)∧i≤ n.es.length∧(0:Int)=lt WEnt.term (n.es.take i)∧([]:List WEnt)=(n.es.drop i).take ([]:List WEnt).length∧n.com= (c:Nat)∧c≤ n.es.length∧ComT x.g n.hT (n.es.take c):=
  ⟨e,0,(x.ns k).com,hel,rfl,Nat.zero_le _,rfl,rfl,hcom,hc1,hc2⟩
 by_cases hok:okR 0 0 n.es=true
 ·by_cases h1:nx< 1∨0+ (n.es.length:Int)+1< nx
  ·rw[ask_arg hok h1];exact hz
  ·have h2:¬nx- 1<0:= o_;rw[ask_in hok h1 h2];obtain⟨i,hi⟩:∃i: Nat,nx-1= i:=⟨(nx-1).toNat,by omega⟩;have hil:i≤ n.es.length:=o_;refine⟨e,i,(x.ns k).com,hel,hi,hil,?_,?_,hcom,hc1,hc2⟩
   ·show(termF 0 0 n.es (nx-1)).1=_
    rw[hi];unfold termF;rw[if_pos ⟨hok,by unfold hasR;exact decide_eq_true o_⟩];exact termR_get hil
   ·show(fromF 0 0 n.es nx 16).1=(n.es.drop i).take (fromF 0 0 n.es nx 16).1.length
    unfold fromF;rw[if_pos hok,if_neg o_];show(n.es.drop (nx-0- 1).toNat).take (cl 0 16 16).toNat=_
    rw[show(nx-0- 1).toNat=i by omega,show(cl 0 16 16).toNat=16 from rfl];show _=(n.es.drop i).take ((n.es.drop i).take 16).length
    rw[List.length_take];by_cases hle:16≤ (n.es.drop i).length
    ·rw[Nat.min_eq_left hle]
    ·rw[Nat.min_eq_right o_,List.take_of_length_le o_,List.take_of_length_le n_]
 ·rw[ask_not (by simpa using hok)];exact hz
theorem okM_all(h:Ok x T N)(r:Rep n (x.ns k))(hs:n.self= k)(hr:n.role= 2)(hk1:1≤ k)(hk7:k≤ 7):∀m∈ allF n,OkM x m∧m.term≤ T:=fun m hm=>by
 unfold allF at hm;obtain⟨j,hj,rfl⟩:=List.mem_map.1 hm;unfold others at hj;obtain⟨i,hi,rfl⟩:=List.mem_map.1 hj;exact h.okB r (okM_send h r hs hr hk1 hk7 (i+1)) rfl
theorem okM_tell(h:Ok x T N)(r:Rep n (x.ns k))(hs:n.self= k)(hk1:1≤ k)(hk7:k≤ 7)(ht:1≤ n.hT)(j:Nat)(i:Int):OkM x (tellF n j false i):=
 ⟨k,j,hs,rfl,hk1,hk7,(show(1:Int)≤4 by decide),(show(4:Int)≤4 by decide),ht,fun e=>absurd (show(4:Int)=1 from e) d_,fun e=>absurd (show(4:Int)=2 from e) d_,fun e=>absurd (show(4:Int)=3 from e) d_,fun _ e=>absurd (show false=true from e) Bool.false_ne_true⟩
end Go.Proofs.YtoeofkcpclfnhaaGreat.Raf
namespace Go.Proofs.YtoeofkcpclfnhaaGreat
open Go.ChangeShapes Go.WideShapes Go.ChangeAt Go.RowKit
set_option maxRecDepth 100000
set_option maxHeartbeats 16000000
theorem putF_len(l:List Prg)(p:Prg):(putF l p).length≤l.length+ 1:=by
 induction l with
 |nil=> exact Nat.le_refl _
 |cons x l ih=>
  unfold putF
  split
  ·simp only[List.length_cons];omega
  ·simp only[List.length_cons];omega
theorem putF_mem{l:List Prg}{p q:Prg}(h:q∈ putF l p):q= p∨q∈ l:=by
 induction l with
 |nil=> exact .inl (List.mem_singleton.1 h)
 |cons x l ih=>
  unfold putF at h
  split at h
  ·rcases List.mem_cons.1 h with h|h
   ·exact .inl h
   ·exact .inr (List.mem_cons_of_mem _ h)
  ·rcases List.mem_cons.1 h with h|h
   ·exact .inr (h▸List.mem_cons_self ..)
   ·exact(ih h).imp id (List.mem_cons_of_mem _)
theorem told_in(p:Prg)(ok:Bool)(i:Int):InI (toldF p ok i).next:=by
 have h1:=cl_bd (lo:=0) (hi:=1099511627776) (n:=p.mat) d_;have h2:=cl_bd (lo:=0) (hi:=1099511627776) (n:=i) d_;have h3:=cl_bd (lo:=1) (hi:=1099511627777) (n:=p.next) d_;unfold toldF InI;cases ok
 ·simp only[Bool.false_eq_true,if_false];omega
 ·simp only[if_true];omega
theorem Gd.toldp{n:Raf.RN}{D:Nat}(h:Gd n D){q:Prg}(hq:InI q.next)(hD:D+ 1≤100000):Gd {n with p:=putF n.p q} (D+1):=⟨h.ok,h.lt,h.len,h.self1,h.self7,h.el1,h.el2,h.pu1,h.pu2,h.dl,h.t0,h.t1,h.c0,h.c1,h.d0,by have:=h.d1;show n.drawn≤_;omega,by have h5:=h.pl;have h6:=putF_len n.p q;show(putF n.p q).length≤_;omega,fun y hy=>(putF_mem hy).elim (fun h5=>h5▸ hq) (h.pb y),hD⟩
theorem Gd.count{n:Raf.RN}{D:Nat}(h:Gd n D):Gd (Raf.countF n) D:=by
 unfold Raf.countF
 split
 ·show Gd (if(commitF 0 0 n.es n.set n.self n.hT n.com n.p).2=0 then{n with com:=(commitF 0 0 n.es n.set n.self n.hT n.com n.p).1}else n) D
  split
  ·rename_i hok
   unfold commitF at hok ⊢
   split at hok
   ·split at hok
    ·exact absurd hok d_
    ·rename_i h1 h2
     rw[if_pos h1,if_neg h2];show Gd {n with com:=comR 0 0 n.es n.set n.self n.hT n.com n.p} D
     have h7:0≤ comR 0 0 n.es n.set n.self n.hT n.com n.p∧comR 0 0 n.es n.set n.self n.hT n.com n.p≤n.es.length:= by
      have h5:=h.c0;have h6:=h.c1;unfold comR;rcases bestUp_is (f:=comAt 0 0 n.es n.set n.self n.hT n.p) (lo:=max n.com 0) (c:=n.com) (0+(n.es.length:Int)-max n.com 0).toNat with e|⟨e1,e2,e3⟩
      ·rw[e];exact⟨h5,h6⟩
      ·omega
     exact⟨h.ok,h.lt,h.len,h.self1,h.self7,h.el1,h.el2,h.pu1,h.pu2,h.dl,h.t0,h.t1,h7.1,h7.2,h.d0,h.d1,h.pl,h.pb,h.D1⟩
   ·exact absurd hok d_
  ·exact h
 ·exact h
theorem tq56 {P:Prop}(h:P:=by
 refine hK.out _ _ ⟨(HM1.next HBc.out).box.cell (j:=1) rfl,(HM1.next HBc.out).box.cell (j:=4) rfl,(HM1.next HBc.out).box.cell (j:=7) rfl⟩ ?_;clear hK K;refine soq 13 (fun K hK=> ?_);rw[if_pos (by rfl)];refine op_store_bex layPrg (.tmp 6) (.tmp 33) rfl g6 Q _ rfl rfl HX6.out rfl ?_;intro v6 hx hw;replace HX6:=h_ hx;replace HBc:=h_ (HBc.trans (hw.below _ HGW6.out));clear hx hw;refine hK.out _ _ ⟨(HM1.next HBc.out).box.cell (j:=1) rfl,(HM1.next HBc.out).box.cell (j:=4) rfl,(HM1.next HBc.out).box.cell (j:=7) rfl⟩ ?_;clear hK K;refine sdq ?_;revert HX6;revert HBc;revert HGW6;revert g6;revert v6
 exact CUT.out):P:=h
theorem tq57 {P:Prop}(h:P:=by
 refine hK.out _ _ ⟨(HM1.next HBc.out).box.cell (j:=1) rfl,(HM1.next HBc.out).box.cell (j:=4) rfl,(HM1.next HBc.out).box.cell (j:=7) rfl⟩ ?_;clear hK K;refine soq 9 (fun K hK=> ?_);go_simp;go_at_call 50
 with_reducible refine(HLA.out _ (HB1.out.trans (HBc.out.mono HB1.out.size))).mono ?_
 rintro en v4 ⟨rfl,hb5⟩;replace HX6:=h_ (HX6.next hb5);replace HBc:=h_ (HBc.trans (hb5.mono HBc.size));clear hb5;refine hK.out _ _ ⟨(HM1.next HBc.out).box.cell (j:=1) rfl,(HM1.next HBc.out).box.cell (j:=4) rfl,(HM1.next HBc.out).box.cell (j:=7) rfl⟩ ?_;clear hK K;refine tkq 10 ?_;refine soq 11 (fun K hK=> ?_);go_simp;go_at_call 65
 with_reducible refine(HTD.out _).mono ?_
 rintro en v5 ⟨rfl,hb5⟩;replace HX6:=h_ (HX6.next hb5);replace HBc:=h_ (HBc.trans (hb5.mono HBc.size));clear hb5
 exact tq56):P:=h
theorem appTell_yes{S T:Nat→ Prop}{w:World}{g:Nat}{x:Nd}{e:Ef}{D:Nat}(h:NdAt S T w g x e)(he:EfAt S T w g e)(hg:Gd x.n D)(m:Ms)(now:Int)(hl:e.sl.length≤ 900000)(hD:D+ 1≤100000)(hy:x.n.role= 2∧m.m.term= x.n.hT):
 Calls Tryz.prog 34 #[.pointer (some ⟨g,0,none⟩),.agg (cellsMs m).toArray,.int .i64 now] w (RetSt S T w g e (appTellF x.n m.m).1 (appTellF x.n m.m).2):=by
 have HPG:=h_ (fun w' (hb:Below w.heap.size w w')=>prog_nd (h.next hb) hg m.m.src);have HLA:=h_ (fun w' (hb:Below w.heap.size w w')=>last_nd (h.next hb) hg.ok);obtain⟨P,hP⟩:∃P,Raf.progF x.n m.m.src=P:= ⟨_,rfl⟩;obtain⟨L,hL⟩:∃L: Int,(x.n.es.length:Int)=L:= ⟨_,rfl⟩;obtain⟨mi,hmi⟩:∃mi,min m.m.index L=mi:= ⟨_,rfl⟩;have HTD:=h_ (fun w'=>told_any P m.m.ok mi w');obtain⟨Q,hQ⟩:∃Q,toldF P m.m.ok mi=Q:= ⟨_,rfl⟩;have hG2:=hg.toldp (q:=Q) (by rw[←hQ];exact told_in _ _ _) hD;rw[hQ]at HTD;rw[hP]at HPG;rw[hL]at HLA;have HPU:=h_ (fun w' (hb:Below w.heap.size w w')=>put_any x.n.p Q x.pa x.n.p.length x.pc w' rfl (by have:=hg.pl;have:=hg.D1;omega) h.prn h.prc (h.pr.row.below hb));obtain⟨PV,hPV⟩:∃PV,putF x.n.p Q=PV:= ⟨_,rfl⟩;rw[hPV]at HPU hG2;have HG2:=h_ hG2;obtain⟨n3,hn3⟩:∃n3,Raf.countF {x.n with p:=PV}=n3:= ⟨_,rfl⟩;have hG3:=hG2.count;have hes:n3.es= x.n.es:=by rw[←hn3];unfold Raf.countF;split;(show Raf.RN.es (if _ then _ else _)=_;split<;>rfl);rfl
 rw[hn3]at hG3;have HG3:=h_ hG3;have HQ:Hid (appTellF x.n m.m=(n3,if m.m.ok=false∨ Q.next≤L then[Raf.sendF n3 m.m.src]else[])):=by
  show appTellF x.n m.m=_
  unfold appTellF;rw[if_pos hy,hP,hL,hmi,hQ,hPV,hn3]
 generalize appTellF x.n m.m=r at HQ ⊢;have HN:=h_ h;have HE:=h_ he;have HL3:Hid ((n3.es.length:Int)=L):=by show _=_;rw[hes,hL]
 have HN3:=h_ hn3;have HMI:=h_ hmi;have HL:=h_ hl;have HMB:=h_ (Bex.new w (cellsMs m) 59);have HBB:Hid (Below w.heap.size w (w.alloc (.cells (cellsMs m).toArray 59))):=mid_alloc' b_;have d1:(x.n.role !=2)=false:= by rw[hy.1];rfl
 have d2:(m.m.term !=x.n.hT)=false:= by simpa using hy.2
 clear h he hg hl hD hy hP hL hmi hQ hPV hn3 hG2 hG3 hes;go_enter Tryz.func34,Tryz.ntmps34;go_wp2_with fail;refine wrq (fun l w'=>(w'.cell? ⟨g,11,none⟩=some (.int .i64 x.n.hT)∧w'.cell? ⟨g,23,none⟩=some (.int .i64 x.n.role)∧w'.cell? ⟨w.heap.size,3,none⟩=some (.int .i64 m.m.term))) ?_;obtain⟨w1,hwd⟩:∃y,y=World.drew (w.alloc (.cells (cellsMs m).toArray 59)):=⟨_,rfl⟩;rw[←hwd];have hb:Below (w.alloc (.cells (cellsMs m).toArray 59)).heap.size (w.alloc (.cells (cellsMs m).toArray 59)) w1:=by rw[hwd];exact b_.drew
 clear hwd;have HB1:=h_ (HBB.trans (hb.mono HBB.size));have HN1:=h_ (HN.next HB1.out);have HM1:=h_ (HMB.next hb);clear hb;refine toS ⟨HN1.bex.box.cell (j:=11) rfl,HN1.bex.box.cell (j:=23) rfl,HM1.box.cell (j:=3) rfl⟩ ?_;refine tkq 0 ?_;refine tkq 1 ?_;refine tkq 2 ?_;refine tkq 3 ?_;refine tkq 4 ?_;refine tkq 5 ?_;refine tkq 6 ?_;refine tkq 7 ?_;refine tkq 8 ?_;refine tkq 9 ?_;refine tkq 10 ?_;refine tkq 11 ?_;refine tkq 12 ?_;refine tkq 13 ?_;refine tkq 14 ?_;refine sdq ?_;clear d1 d2;go_upto_region 2 with fail;have f1:(if L<m.m.index then L else m.m.index)=mi:= by have:=HMI.out;split<;>omega
 apply cut_here
 ·intro CUT;refine wrq (fun l w'=>(w'.cell? ⟨w.heap.size,1,none⟩=some (.int .i64 m.m.src)∧w'.cell? ⟨w.heap.size,4,none⟩=some (.int .i64 m.m.index)∧w'.cell? ⟨w.heap.size,7,none⟩=some (.bool m.m.ok))) ?_;obtain⟨v1,hwd⟩:∃y,y=World.drew w1:=⟨_,rfl⟩;rw[←hwd];have hb:Below w1.heap.size w1 v1:=by rw[hwd];exact b_.drew
  clear hwd;have HBc:=h_ hb;clear hb;refine toS ⟨(HM1.next HBc.out).box.cell (j:=1) rfl,(HM1.next HBc.out).box.cell (j:=4) rfl,(HM1.next HBc.out).box.cell (j:=7) rfl⟩ ?_;refine tkq 0 ?_;refine tkq 1 ?_;refine tkq 2 ?_;refine tkq 4 ?_;refine tkq 5 ?_;refine tkq 6 ?_;refine tkq 7 ?_;refine tkq 8 ?_;refine s2q 3 12 (fun K hK=> ?_) (fun K hK=> ?_)
  ·go_simp;go_at_call 66
   with_reducible refine(HPG.out _ (HB1.out.trans (HBc.out.mono HB1.out.size))).mono ?_
   rintro en v2 ⟨rfl,hb5⟩;replace HBc:=h_ (HBc.trans (hb5.mono HBc.size));clear hb5;refine hK.out _ _ ⟨(HM1.next HBc.out).box.cell (j:=1) rfl,(HM1.next HBc.out).box.cell (j:=4) rfl,(HM1.next HBc.out).box.cell (j:=7) rfl⟩ ?_;clear hK K;refine s2q 9 12 (fun K hK=> ?_) (fun K hK=> ?_)
   ·go_simp;go_at_call 50
    with_reducible refine(HLA.out _ (HB1.out.trans (HBc.out.mono HB1.out.size))).mono ?_
    rintro en v3 ⟨rfl,hb5⟩;replace HBc:=h_ (HBc.trans (hb5.mono HBc.size));clear hb5;refine hK.out _ _ ⟨(HM1.next HBc.out).box.cell (j:=1) rfl,(HM1.next HBc.out).box.cell (j:=4) rfl,(HM1.next HBc.out).box.cell (j:=7) rfl⟩ ?_;clear hK K;refine tkq 10 ?_;refine s2q 11 12 (fun K hK=> ?_) (fun K hK=> ?_)
    ·go_simp;go_at_call 65
     with_reducible refine(HTD.out _).mono ?_
     rintro en v4 ⟨rfl,hb5⟩;replace HBc:=h_ (HBc.trans (hb5.mono HBc.size));clear hb5;refine hK.out _ _ ⟨(HM1.next HBc.out).box.cell (j:=1) rfl,(HM1.next HBc.out).box.cell (j:=4) rfl,(HM1.next HBc.out).box.cell (j:=7) rfl⟩ ?_;clear hK K;refine soq 12 (fun K hK=> ?_);go_simp;refine new_block ?_;intro v5 hxb hb5 hsb;have HX6:=h_ hxb;obtain⟨g6,hg6⟩:∃q,q=v4.heap.size:= ⟨_,rfl⟩;rw[←hg6]at HX6 ⊢;have HGW6:Hid (w1.heap.size≤g6):=by show _≤_;have:=HBc.size;omega
     replace HBc:=h_ (HBc.trans (hb5.mono HBc.size));clear hxb hb5 hsb hg6;exact tq56
    ·go_simp;refine new_block ?_;intro v4 hxb hb5 hsb;have HX6:=h_ hxb;obtain⟨g6,hg6⟩:∃q,q=v3.heap.size:= ⟨_,rfl⟩;rw[←hg6]at HX6 ⊢;have HGW6:Hid (w1.heap.size≤g6):=by show _≤_;have:=HBc.size;omega
     replace HBc:=h_ (HBc.trans (hb5.mono HBc.size));clear hxb hb5 hsb hg6;refine hK.out _ _ ⟨(HM1.next HBc.out).box.cell (j:=1) rfl,(HM1.next HBc.out).box.cell (j:=4) rfl,(HM1.next HBc.out).box.cell (j:=7) rfl⟩ ?_;clear hK K;refine soq 11 (fun K hK=> ?_);go_simp;go_at_call 65
     with_reducible refine(HTD.out _).mono ?_
     rintro en v5 ⟨rfl,hb5⟩;replace HX6:=h_ (HX6.next hb5);replace HBc:=h_ (HBc.trans (hb5.mono HBc.size));clear hb5;exact tq56
   ·go_simp;refine new_block ?_;intro v3 hxb hb5 hsb;have HX6:=h_ hxb;obtain⟨g6,hg6⟩:∃q,q=v2.heap.size:= ⟨_,rfl⟩;rw[←hg6]at HX6 ⊢;have HGW6:Hid (w1.heap.size≤g6):=by show _≤_;have:=HBc.size;omega
    replace HBc:=h_ (HBc.trans (hb5.mono HBc.size));clear hxb hb5 hsb hg6;exact tq57
  ·go_simp;refine new_block ?_;intro v2 hxb hb5 hsb;have HX6:=h_ hxb;obtain⟨g6,hg6⟩:∃q,q=v1.heap.size:= ⟨_,rfl⟩;rw[←hg6]at HX6 ⊢;have HGW6:Hid (w1.heap.size≤g6):=by show _≤_;have:=HBc.size;omega
   replace HBc:=h_ (HBc.trans (hb5.mono HBc.size));clear hxb hb5 hsb hg6;refine hK.out _ _ ⟨(HM1.next HBc.out).box.cell (j:=1) rfl,(HM1.next HBc.out).box.cell (j:=4) rfl,(HM1.next HBc.out).box.cell (j:=7) rfl⟩ ?_;clear hK K;refine soq 3 (fun K hK=> ?_);go_simp;go_at_call 66
   with_reducible refine(HPG.out _ (HB1.out.trans (HBc.out.mono HB1.out.size))).mono ?_
   rintro en v3 ⟨rfl,hb5⟩;replace HX6:=h_ (HX6.next hb5);replace HBc:=h_ (HBc.trans (hb5.mono HBc.size));clear hb5;exact tq57
 intro v6 g6 HGW6 HBc HX6;clear HTD HPG HMI f1;go_upto_region 3 with fail;refine wrq (fun l w'=>(w'.cell? ⟨g6,0,none⟩=some (.int .i64 Q.node)∧w'.cell? ⟨g6,1,none⟩=some (.int .i64 Q.mat)∧w'.cell? ⟨g6,2,none⟩=some (.int .i64 Q.next))∧Till 9 l (w'.cell? ⟨g,29,none⟩=some (.slice x.pa x.n.p.length x.pc))) ?_;obtain⟨v7,hwd⟩:∃y,y=World.drew v6:=⟨_,rfl⟩;rw[←hwd];have hb:Below v6.heap.size v6 v7:=by rw[hwd];exact b_.drew
 clear hwd;have HB7:=h_ hb;clear hb;refine toS ⟨⟨(HX6.next HB7.out).box.cell (j:=0) rfl,(HX6.next HB7.out).box.cell (j:=1) rfl,(HX6.next HB7.out).box.cell (j:=2) rfl⟩,fun _=>(HN1.next (HBc.trans (HB7.mono HBc.size))).bex.box.cell (j:=29) rfl⟩ ?_;refine ttq [] 0 ?_;refine ttq [] 1 ?_;refine ttq [] 2 ?_;refine ttq [] 3 ?_;refine ttq [9] 4 ?_;refine ttq [9] 5 ?_;refine soq 6 (fun K hK=> ?_);go_simp;go_at_call 67
 with_reducible refine(HPU.out _ (HB1.out.trans ((HBc.out.trans (HB7.out.mono HBc.out.size)).mono HB1.out.size))).mono ?_
 rintro en v8 ⟨a5,c5,rfl,hr5,hb,hle5,hn5,hz5⟩;have HD8:=h_ hb;have HP8:=h_ (And.intro hr5 (And.intro hle5 (And.intro hn5 hz5)));have HN7:=h_ (HN1.next (HBc.trans (HB7.mono HBc.size)));have HX8:=h_ ((HX6.next HB7.out).next hb);have HB8:=h_ (HB1.trans ((HBc.trans ((HB7.trans (hb.mono HB7.size)).mono HBc.size)).mono HB1.size));clear hb hr5 hle5 hn5 hz5;refine hK.out _ _ ⟨⟨HX8.box.cell (j:=0) rfl,HX8.box.cell (j:=1) rfl,HX8.box.cell (j:=2) rfl⟩,fun _=>(HN7.next HD8.out).bex.box.cell (j:=29) rfl⟩ ?_;clear hK K;refine ttq [] 7 ?_;refine ttq [] 8 ?_;refine soq 9 (fun K hK=> ?_);rw[if_pos (by rfl)];refine op_field_bex (.tmp 42) (.tmp 40) rfl size1_nd.2.2.2.2.2.1 g 29 _ (.slice a5 PV.length c5) rfl rfl rfl rfl (HN7.next HD8.out).bex (show 29<30 by decide) ?_;intro v9 hx hw;have HN9:Hid (NdAt S T v9 g ({x with n:={x.n with p:=PV},pa:=a5,pc:=c5}:Nd) e):=HN7.newp (n':={x.n with p:=PV}) HD8.out hw hx rfl rfl HP8.1 HP8.2.2.1 HP8.2.1 HP8.2.2.2;have HE9:=h_ ((HE.next HB8.out).wrote hw HN.tg);have HS9:Hid (Stp T w T v9):=(Stp.below HB8.out).write hw HN.tg;have HX9:=h_ (HX8.wrote hw (by have:=HGW6.out;have:=HN1.lt;omega));have HM9:=h_ ((HM1.next (HBc.trans ((HB7.trans (HD8.mono HB7.size)).mono HBc.size))).wrote hw (by have:=HN.lt;omega));clear hx hw;refine hK.out _ _ ⟨⟨HX9.box.cell (j:=0) rfl,HX9.box.cell (j:=1) rfl,HX9.box.cell (j:=2) rfl⟩,fun h=>absurd h d_⟩ ?_;clear hK K;refine sdq ?_;have HCO:=h_ (count_nd HN9.out HG2.out);rw[show(Raf.countF (({x with n:={x.n with p:=PV},pa:=a5,pc:=c5}:Nd).n))=n3 from HN3.out]at HCO;go_upto_region 5 with(go_at_call 51;((with_reducible refine HCO.out.mono ?_);rintro en v10 ⟨rfl,hnd,hon⟩;have HN10:=h_ hnd;have HO10:=h_ hon;clear hnd hon));have HS10:=h_ (HS9.trans (.of_keep (HO10.kept HN.tg)));have HE10:=h_ (HE9.only HO10.out HN.tg);have HX10:=h_ (HX9.only HO10.out (by have:=HGW6.out;have:=HN1.lt;omega));have HM10:=h_ (HM9.only HO10.out (by have:=HN.lt;omega));have HLB:=h_ (fun w' (hb:Below v10.heap.size v10 w')=>last_nd (HN10.next hb) HG3.ok);rw[show((({x with n:=n3,pa:=a5,pc:=c5}:Nd).n.es.length:Nat):Int)=L from HL3.out]at HLB;rcases d3:m.m.ok with _|_
 ·skip;refine wrq (fun l w'=>(w'.cell? ⟨w.heap.size,7,none⟩=some (.bool false)∧w'.cell? ⟨g6,2,none⟩=some (.int .i64 Q.next))) ?_;obtain⟨v11,hwd⟩:∃y,y=World.drew v10:=⟨_,rfl⟩;rw[←hwd];have hb:Below v10.heap.size v10 v11:=by rw[hwd];exact b_.drew
  clear hwd;have HB11:=h_ hb;clear hb;refine toS ⟨by rw[←d3];exact(HM10.next HB11.out).box.cell (j:=7) rfl,(HX10.next HB11.out).box.cell (j:=2) rfl⟩ ?_;refine tkq 0 ?_;refine tkq 1 ?_;refine tkq 2 ?_;refine tkq 3 ?_;refine tkq 4 ?_ (v:=undef) (hy:=Or.inr ⟨by rfl,rfl⟩);refine tkq 5 ?_ (v:=undef) (hy:=Or.inr ⟨by rfl,rfl⟩);refine tkq 6 ?_ (v:=undef) (hy:=Or.inr ⟨by rfl,rfl⟩);refine tkq 7 ?_ (v:=undef) (hy:=Or.inr ⟨by rfl,rfl⟩);refine tkq 8 ?_ (v:=undef) (hy:=Or.inr ⟨by rfl,rfl⟩);refine tkq 9 ?_;refine sdq ?_;have HQ2:Hid (r=(n3,[Raf.sendF n3 m.m.src])):=HQ.trans (by rw[if_pos (.inl d3)]);have k1:=(HM10.next HB11.out).box.cell (j:=1) rfl;have HSE:=h_ (send_nd (HN10.next HB11.out) (HE10.next HB11.out) HG3.out m.m.src (by have:=HL.out;omega) (prog_in HG3.out _));go_wp2_with(go_at_call 56;((with_reducible refine HSE.out.mono ?_);rintro en v13 ⟨rfl,T4,sl4,sa4,sc4,hst4,hnd4,hef4,hml4⟩;have HF4:=h_ (And.intro hst4 (And.intro hnd4 (And.intro hef4 hml4)));clear hst4 hnd4 hef4 hml4));go_end0;exact⟨rfl,T4,({x with n:=n3,pa:=a5,pc:=c5}:Nd),{e with sl:=sl4,sa:=sa4,sc:=sc4},HS10.trans ((Stp.below HB11.out).trans HF4.1),by rw[HQ2.out],HF4.2.1,HF4.2.2.1,by rw[HQ2.out];exact HF4.2.2.2⟩
 ·rcases d4:decide (Q.next≤L)with _|_
  ·have d5:¬Q.next≤ L:=of_decide_eq_false d4;refine wrq (fun l w'=>(w'.cell? ⟨w.heap.size,7,none⟩=some (.bool true)∧w'.cell? ⟨g6,2,none⟩=some (.int .i64 Q.next))) ?_;obtain⟨v11,hwd⟩:∃y,y=World.drew v10:=⟨_,rfl⟩;rw[←hwd];have hb:Below v10.heap.size v10 v11:=by rw[hwd];exact b_.drew
   clear hwd;have HB11:=h_ hb;clear hb;refine toS ⟨by rw[←d3];exact(HM10.next HB11.out).box.cell (j:=7) rfl,(HX10.next HB11.out).box.cell (j:=2) rfl⟩ ?_;refine tkq 0 ?_;refine tkq 1 ?_;refine tkq 2 ?_;refine tkq 3 ?_;refine tkq 4 ?_;refine tkq 5 ?_;refine tkq 6 ?_;refine soq 7 (fun K hK=> ?_);go_simp;go_at_call 50
   with_reducible refine(HLB.out _ HB11.out).mono ?_
   rintro en v12 ⟨rfl,hb⟩;have HB12:=h_ (HB11.trans (hb.mono HB11.size));clear hb;refine hK.out _ _ ⟨by rw[←d3];exact(HM10.next HB12.out).box.cell (j:=7) rfl,(HX10.next HB12.out).box.cell (j:=2) rfl⟩ ?_;clear hK K;refine tkq 8 ?_;refine tkq 9 ?_;refine sdq ?_;have HQ2:Hid (r=(n3,[])):=HQ.trans (by rw[if_neg (fun h5=>h5.elim (fun h6=>by rw[d3]at h6;cases h6) d5)]);go_wp2_with fail;go_end0;exact⟨rfl,T,({x with n:=n3,pa:=a5,pc:=c5}:Nd),e,HS10.next HB12.out,by rw[HQ2.out],HN10.next HB12.out,HE10.next HB12.out,by rw[HQ2.out,List.append_nil]⟩
  ·have d5:Q.next≤ L:=of_decide_eq_true d4;refine wrq (fun l w'=>(w'.cell? ⟨w.heap.size,7,none⟩=some (.bool true)∧w'.cell? ⟨g6,2,none⟩=some (.int .i64 Q.next))) ?_;obtain⟨v11,hwd⟩:∃y,y=World.drew v10:=⟨_,rfl⟩;rw[←hwd];have hb:Below v10.heap.size v10 v11:=by rw[hwd];exact b_.drew
   clear hwd;have HB11:=h_ hb;clear hb;refine toS ⟨by rw[←d3];exact(HM10.next HB11.out).box.cell (j:=7) rfl,(HX10.next HB11.out).box.cell (j:=2) rfl⟩ ?_;refine tkq 0 ?_;refine tkq 1 ?_;refine tkq 2 ?_;refine tkq 3 ?_;refine tkq 4 ?_;refine tkq 5 ?_;refine tkq 6 ?_;refine soq 7 (fun K hK=> ?_);go_simp;go_at_call 50
   with_reducible refine(HLB.out _ HB11.out).mono ?_
   rintro en v12 ⟨rfl,hb⟩;have HB12:=h_ (HB11.trans (hb.mono HB11.size));clear hb;refine hK.out _ _ ⟨by rw[←d3];exact(HM10.next HB12.out).box.cell (j:=7) rfl,(HX10.next HB12.out).box.cell (j:=2) rfl⟩ ?_;clear hK K;refine tkq 8 ?_;refine tkq 9 ?_;refine sdq ?_;have HQ2:Hid (r=(n3,[Raf.sendF n3 m.m.src])):=HQ.trans (by rw[if_pos (.inr d5)]);have k1:=(HM10.next HB12.out).box.cell (j:=1) rfl;have HSE:=h_ (send_nd (HN10.next HB12.out) (HE10.next HB12.out) HG3.out m.m.src (by have:=HL.out;omega) (prog_in HG3.out _));go_wp2_with(go_at_call 56;((with_reducible refine HSE.out.mono ?_);rintro en v13 ⟨rfl,T4,sl4,sa4,sc4,hst4,hnd4,hef4,hml4⟩;have HF4:=h_ (And.intro hst4 (And.intro hnd4 (And.intro hef4 hml4)));clear hst4 hnd4 hef4 hml4));go_end0;exact⟨rfl,T4,({x with n:=n3,pa:=a5,pc:=c5}:Nd),{e with sl:=sl4,sa:=sa4,sc:=sc4},HS10.trans ((Stp.below HB12.out).trans HF4.1),by rw[HQ2.out],HF4.2.1,HF4.2.2.1,by rw[HQ2.out];exact HF4.2.2.2⟩
theorem appTell_nd{S T:Nat→ Prop}{w:World}{g:Nat}{x:Nd}{e:Ef}{D:Nat}(h:NdAt S T w g x e)(he:EfAt S T w g e)(hg:Gd x.n D)(m:Ms)(now:Int)(hl:e.sl.length≤ 900000)(hD:D+ 1≤100000):
 Calls Tryz.prog 34 #[.pointer (some ⟨g,0,none⟩),.agg (cellsMs m).toArray,.int .i64 now] w (RetSt S T w g e (appTellF x.n m.m).1 (appTellF x.n m.m).2):=by
 by_cases hy:x.n.role= 2∧m.m.term= x.n.hT
 ·exact appTell_yes h he hg m now hl hD hy
 ·exact appTell_no h he m now hy
end Go.Proofs.YtoeofkcpclfnhaaGreat
