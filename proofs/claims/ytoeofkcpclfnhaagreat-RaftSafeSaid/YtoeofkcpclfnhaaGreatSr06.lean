import Derived.Test.YtoeofkcpclfnhaaGreatSr05
import Derived.Test.YtoeofkcpclfnhaaGreatSr02
set_option linter.unusedVariables false
set_option linter.unusedSimpArgs false
namespace Go.Proofs.YtoeofkcpclfnhaaGreat.Raf
set_option maxHeartbeats 16000000
section
variable {E:Type} {tm:E→ Int} {cf:E→ Option (Nat→Bool)} {c0:Nat→ Bool} {x:Sys E}
def grow(g:Gh E)(t:Int)(v:Nat)(l:List E):Gh E:={g with L:=updT g.L t l,ack:=fun s w=>if s=t∧ w=v then l.length else g.ack s w}
def winG(x:Sys E)(v:Nat)(e:E):Gh E:=
 {grow x.g (x.ns v).term v ((x.ns v).log++[e])with el:=updT x.g.el (x.ns v).term (some (v,(x.ns v).log))}
def winS(x:Sys E)(v:Nat)(e:E):Sys E:=
 {x with ns:=upd x.ns v {x.ns v with log:=(x.ns v).log++[e],role:=2,mat:=fun _=>0},g:=winG x v e,acc:=upd x.acc v (x.ns v).term}
theorem Inv.none_el(h:Inv tm cf c0 x){v:Nat}(hr:(x.ns v).role=1)(hm:Maj (lat cf c0 (x.ns v).log) (x.ns v).yes):x.g.el (x.ns v).term=none:= by
 obtain⟨h1,h2,h3,h4,h5⟩:=h.cand v hr;rcases e:x.g.el (x.ns v).term with _|⟨k,m⟩
 ·rfl
 ·exfalso
  refine h4 k m e ?_
  have w:Win tm cf c0 x.g (x.ns v).term v (x.ns v).log:=⟨h.log v,h2,(x.ns v).yes,hm,fun j hj=>by
   obtain⟨l,hl⟩:=h5 j hj;obtain⟨_,ml,h6,h7,h8,h9⟩:=h.votes _ _ _ _ hl;rw[h1]at h6;cases h6
   refine⟨l,hl,h7,h8,fun s i n hs hc hi hall=>h9 s i hs hi fun s' k' m' h10 h11 h12=> ?_⟩;rcases Int.lt_or_eq_of_le h11 with h13|h13
   ·exact hall s' k' m' h10 h13 h12
   ·subst h13
    exact(h.hist.has (h.hist.win _ _ _ h12) hs i n hc).2⟩
  exact(h.hist.one w e).symm
theorem Inv.winA(h:Inv tm cf c0 x){v:Nat}(hr:(x.ns v).role=1)(hm:Maj (lat cf c0 (x.ns v).log) (x.ns v).yes):WinA tm cf c0 x.g (x.ns v).term v (x.ns v).log:=by
 have hnone:=h.none_el hr hm;obtain⟨h1,h2,h3,h4,h5⟩:=h.cand v hr;refine⟨h.log v,h2,(x.ns v).yes,hm,fun j hj=> ?_⟩;obtain⟨l,hl⟩:=h5 j hj;obtain⟨_,ml,h6,h7,h8,h9⟩:=h.votes _ _ _ _ hl;rw[h1]at h6;cases h6
 refine⟨l,hl,h7,h8,fun s i hs hi hall=>h9 s i hs hi fun s' k' m' h10 h11 h12=> ?_⟩;rcases Int.lt_or_eq_of_le h11 with h13|h13
 ·exact hall s' k' m' h10 h13 h12
 ·subst h13;rw[hnone]at h12;cases h12
theorem Ext.win(h:Inv tm cf c0 x){v:Nat}(hr:(x.ns v).role=1)(hm:Maj (lat cf c0 (x.ns v).log) (x.ns v).yes)(e:E):Ext x (winS x v e):=by
 have hnone:=h.none_el hr hm;have hL:=h.none0 _ hnone
 exact{
  el:=fun t k he=>by
   show updT x.g.el (x.ns v).term _ t=some k
   rw[updT_ne];exact he;rintro rfl;rw[hnone]at he;cases he
  L:=fun t=>by
   by_cases h1:t= (x.ns v).term
   ·subst h1;exact⟨(x.ns v).log++[e],by show updT x.g.L _ _ _=_;rw[updT_same,hL];rfl⟩
   ·exact⟨[],by show updT x.g.L _ _ _=_;rw[updT_ne _ _ h1,List.append_nil]⟩
  vt:=fun _ _ _ he=>he
  ack:=fun t w=>by
   show _≤if t=(x.ns v).term∧w= v then _ else x.g.ack t w
   by_cases h1:t= (x.ns v).term∧w= v
   ·rw[if_pos h1,h1.1,h1.2];have:=h.hist.ack (x.ns v).term v;rw[hL]at this;have h2:x.g.ack (x.ns v).term v=0:= by simpa using this
    omega
   ·rw[if_neg h1];exact Nat.le_refl _
  old:=fun t w k he u hu=>by
   show(if u=(x.ns v).term∧w= v then _ else x.g.ack u w)=_
   refine if_neg fun h1=> ?_
   obtain⟨rfl,rfl⟩:=h1;have:=(h.votes t w k.1 k.2 he).1;omega
  cert:=fun _ _ _ he=>he
  ck:=fun _ _ _ he=>he}
theorem tq14 {P:Prop}(h:P:=by
 have e1:b= (x.ns v).log.length:=by simp at hb';omega
 subst e1;have e2:((x.ns v).log++[e])[(x.ns v).log.length]=e:= by simp
 rw[e2,hcf]at hc;cases hc):P:=h
theorem Inv.win(h:Inv tm cf c0 x){v:Nat}(hr:(x.ns v).role=1)(hm:Maj (lat cf c0 (x.ns v).log) (x.ns v).yes){e:E}(he:tm e=(x.ns v).term)(hcf:cf e=none):Inv tm cf c0 (winS x v e):=by
 have hnone:=h.none_el hr hm;have hL0:=h.none0 _ hnone;have hx:=Ext.win h hr hm e;have hw:=(h.winA hr hm).ext hx h.hist.ack;obtain⟨h1,h2,h3,h4,h5⟩:=h.cand v hr;have hlog:=h.log v;have hack0:∀w,x.g.ack (x.ns v).term w=0:= fun w=>by
  have:=h.hist.ack (x.ns v).term w;rw[hL0]at this;simpa using this
 have hLt:(winS x v e).g.L (x.ns v).term=(x.ns v).log++[e]:=updT_same _ _ _;have hLn:∀t,t≠(x.ns v).term→(winS x v e).g.L t=x.g.L t:=fun t ht=>updT_ne _ _ ht
 have hEt:(winS x v e).g.el (x.ns v).term=some (v,(x.ns v).log):=updT_same _ _ _;have hEn:∀t,t≠(x.ns v).term→(winS x v e).g.el t=x.g.el t:=fun t ht=>updT_ne _ _ ht
 have hAn:∀s w,¬(s=(x.ns v).term∧w= v)→(winS x v e).g.ack s w=x.g.ack s w:=fun s w hn=>if_neg hn
 have hAt:(winS x v e).g.ack (x.ns v).term v=((x.ns v).log++[e]).length:=if_pos ⟨rfl,rfl⟩;have hcert:∀s i m,x.g.cert s i m→s≠ (x.ns v).term:=fun s i m hc=>by
  rintro rfl;have:=(h.hist.cert _ _ _ hc).1;rw[hnone]at this;cases this
 have hle:∀i (hi:i< (x.ns v).log.length),tm (x.ns v).log[i]<(x.ns v).term:=fun i hi=>by
  have:=h.hist.le_lt hlog hi;omega
 have hgood:Good tm (winS x v e).g ((x.ns v).log++[e]):=fun i hi=>by
  rw[List.length_append]at hi;by_cases hi':i< (x.ns v).log.length
  ·have:=(hlog.ext hx) i hi';rw[List.getElem_append_left hi',List.take_append_of_le_length o_];exact this
  ·have e1:i= (x.ns v).log.length:=by simp at hi;omega
   subst e1;have e2:((x.ns v).log++[e])[(x.ns v).log.length]=e:= by simp
   rw[e2,he,hEt,hLt];exact⟨rfl,rfl⟩
 have hgoodL:∀t,Good tm (winS x v e).g ((winS x v e).g.L t):=fun t=>by
  by_cases ht:t= (x.ns v).term
  ·subst ht;rw[hLt];exact hgood
  ·rw[hLn t ht];exact(h.hist.good t).ext hx
 have key:∀(P:Nat→ Nd E→Prop),(∀w,w≠v→ P w (x.ns w))→P v {x.ns v with log:=(x.ns v).log++[e],role:=2,mat:=fun _=>0}→∀w,P w ((winS x v e).ns w):=fun P k1 k2 w=>by
  show P w (upd x.ns v _ w)
  by_cases e:w= v
  ·subst e;rw[upd_same];exact k2
  ·rw[upd_ne _ _ e];exact k1 w e
 have hterm:∀w,((winS x v e).ns w).term=(x.ns w).term:=key (fun w y=>y.term= (x.ns w).term) (fun _ _=>rfl) rfl;have hltl:lt tm ((x.ns v).log++[e])=(x.ns v).term:=by rw[lt_snoc,he]
 exact{
  hist:={
   pos:=fun t k m hel=>by
    by_cases ht:t= (x.ns v).term
    ·omega
    ·rw[hEn t ht]at hel;exact h.hist.pos t k m hel
   wina:=fun t k m hel=>by
    by_cases ht:t= (x.ns v).term
    ·subst ht;rw[hEt]at hel;cases hel;exact hw
    ·rw[hEn t ht]at hel;exact(h.hist.wina t k m hel).ext hx h.hist.ack
   own:=fun t k m hel=>by
    by_cases ht:t= (x.ns v).term
    ·subst ht;rw[hEt]at hel;cases hel;exact⟨[e],hLt,fun y hy=>by rw[List.mem_singleton.1 hy];exact he⟩
    ·rw[hEn t ht]at hel;rw[hLn t ht];exact h.hist.own t k m hel
   good:=hgoodL
   sort:=fun t=>by
    by_cases ht:t= (x.ns v).term
    ·subst ht;rw[hLt,List.pairwise_append];refine⟨h.hist.sorted hlog,List.pairwise_singleton _ _,fun a ha b hb=> ?_⟩;obtain⟨i,hi,rfl⟩:=List.getElem_of_mem ha;rw[List.mem_singleton.1 hb,he];exact Int.le_of_lt (hle i hi)
    ·rw[hLn t ht];exact h.hist.sort t
   ack:=fun s w=>by
    by_cases hs:s= (x.ns v).term∧w= v
    ·rw[hs.1,hs.2,hAt,hLt];exact Nat.le_refl _
    ·rw[hAn s w hs];exact Nat.le_trans (h.hist.ack s w) (hx.len s)
   cert:=fun s i m hc=>by
    have hs:=hcert s i m hc;obtain⟨k1,k2,k3,k4,k5,q,k6,k7⟩:=h.hist.cert s i m hc;rw[hEn s hs];refine⟨k1,k2,k3,by rw[hLn s hs];exact k4,?_,q,by rw[hLn s hs];exact k6,fun w hwq=>by rw[hAn s w (fun k=>hs k.1)];exact k7 w hwq⟩;intro hi;have e1:=hLn s hs;have:∀(l:List E) (el:(winS x v e).g.L s=l) (hl:i- 1<l.length),tm ((winS x v e).g.L s)[i-1]=tm l[i-1]:=fun l el hl=>by subst el;rfl
    rw[this _ e1 (by rw[←e1];exact hi)];exact k5 _
   first:=fun s b hb ht hc=>by
    by_cases hs:s= (x.ns v).term
    ·subst hs
     exfalso
     have:∀(l:List E) (el:(winS x v e).g.L (x.ns v).term=l) (hl:b< l.length),((winS x v e).g.L (x.ns v).term)[b]=l[b]:=fun l el hl=>by subst el;rfl
     have hb':b< ((x.ns v).log++[e]).length:=by rw[←hLt];exact hb
     rw[this _ hLt hb']at ht hc;by_cases hi:b< (x.ns v).log.length
     ·rw[List.getElem_append_left hi]at ht;have:=hle b hi;omega
     ·exact tq14
    ·have:∀(l:List E) (el:(winS x v e).g.L s=l) (hl:b< l.length),((winS x v e).g.L s)[b]=l[b]:=fun l el hl=>by subst el;rfl
     have hb':b< (x.g.L s).length:=by rw[←hLn s hs];exact hb
     rw[this _ (hLn s hs) hb']at ht hc;exact h.hist.first s b hb' ht hc
   two:=fun s a b hb hab ht ht2 hc hc2=>by
    by_cases hs:s= (x.ns v).term
    ·subst hs
     exfalso
     have:∀(l:List E) (el:(winS x v e).g.L (x.ns v).term=l) (hl:a< l.length),((winS x v e).g.L (x.ns v).term)[a]'o_=l[a]:=fun l el hl=>by subst el;rfl
     have hb':b< ((x.ns v).log++[e]).length:=by rw[←hLt];exact hb
     have hi:a< (x.ns v).log.length:=by simp at hb';omega
     rw[this _ hLt o_,List.getElem_append_left hi]at ht2;have:=hle a hi;omega
    ·have:∀j (hj:j< ((winS x v e).g.L s).length) (l:List E) (el:(winS x v e).g.L s=l) (hl:j< l.length),((winS x v e).g.L s)[j]=l[j]:=fun j hj l el hl=>by subst el;rfl
     have hb':b< (x.g.L s).length:=by rw[←hLn s hs];exact hb
     rw[this b hb _ (hLn s hs) hb']at ht hc;rw[this a o_ _ (hLn s hs) o_]at ht2 hc2;exact h.hist.two s a b hb' hab ht ht2 hc hc2
   close:=fun s b hb c hc=>by
    by_cases hs:s= (x.ns v).term
    ·subst hs;have:∀(l:List E) (el:(winS x v e).g.L (x.ns v).term=l) (hl:b< l.length),((winS x v e).g.L (x.ns v).term)[b]=l[b]:=fun l el hl=>by subst el;rfl
     have hb':b< ((x.ns v).log++[e]).length:=by rw[←hLt];exact hb
     rw[this _ hLt hb']at hc;by_cases hi:b< (x.ns v).log.length
     ·rw[List.getElem_append_left hi]at hc;obtain⟨_,k2⟩:=hlog b hi;have k3:b+ 1≤(x.g.L (tm (x.ns v).log[b])).length:=take_len k2 o_;have k4:(x.ns v).log[b]=(x.g.L (tm (x.ns v).log[b]))[b]'o_:=get_of_take k2 o_ hi o_;have k5:=h.hist.close (tm (x.ns v).log[b]) b o_ c (by rw[←k4];exact hc);rw[hLt,List.take_append_of_le_length o_];have k6:=congrArg (List.take b) k2;rw[List.take_take,List.take_take,Nat.min_eq_left o_]at k6;rw[k6];exact k5
     ·exact tq14
    ·have:∀(l:List E) (el:(winS x v e).g.L s=l) (hl:b< l.length),((winS x v e).g.L s)[b]=l[b]:=fun l el hl=>by subst el;rfl
     have hb':b< (x.g.L s).length:=by rw[←hLn s hs];exact hb
     rw[this _ (hLn s hs) hb']at hc;rw[hLn s hs]
     exact h.hist.close s b hb' c hc}
  none0:=fun t hel=>by
   by_cases ht:t= (x.ns v).term
   ·subst ht;rw[hEt]at hel;cases hel
   ·rw[hEn t ht]at hel;rw[hLn t ht];exact h.none0 t hel
  log:=key (fun _ y=>Good tm (winS x v e).g y.log) (fun w _=>(h.log w).ext hx) hgood
  term0:=key (fun _ y=>0≤ y.term) (fun w _=>h.term0 w) (h.term0 v)
  low:=key (fun _ y=>lt tm y.log≤y.term) (fun w _=>h.low w) (by show lt tm ((x.ns v).log++[e])≤(x.ns v).term;rw[hltl];exact Int.le_refl _)
  elt:=fun t k m hel=>by
   rw[hterm k];by_cases ht:t= (x.ns v).term
   ·subst ht;rw[hEt]at hel;cases hel;exact Int.le_refl _
   ·rw[hEn t ht]at hel;exact h.elt t k m hel
  votes:=fun t w c l hv=>by
   rw[hterm w];obtain⟨k1,ml,k2,k3,k4,k5⟩:=h.votes t w c l hv;exact⟨k1,ml,k2,k3.ext hx,k4,k5.ext hx h.hist.ack hv⟩
  now:=key (fun w y=>y.vote= ((x.g.vt y.term w).map Prod.fst).getD 0) (fun w _=>h.now w) (h.now v)
  vt0:=h.vt0
  ckt:=fun t c l hc=>by rw[hterm c];exact h.ckt t c l hc
  cand:=key (fun w y=>y.role= 1→x.ck y.term w=some y.log∧lt tm y.log<y.term∧ 1≤y.term∧ (∀k m,(winS x v e).g.el y.term=some (k,m)→k≠ w)∧∀j,y.yes j=true→ ∃l,x.g.vt y.term j=some (w,l)) (fun w hwv hr'=>by
   obtain⟨k1,k2,k3,k4,k5⟩:=h.cand w hr';refine⟨k1,k2,k3,fun k m hel=> ?_,k5⟩;by_cases ht:(x.ns w).term=(x.ns v).term
   ·rw[ht,hEt]at hel;cases hel;exact fun e=>hwv e.symm
   ·rw[hEn _ ht]at hel;exact k4 k m hel) (fun hr'=>by cases hr')
  lead:=key (fun w y=>y.role= 2→(∃m,(winS x v e).g.el y.term=some (w,m))∧y.log= (winS x v e).g.L y.term∧(winS x v e).g.ack y.term w=y.log.length∧ (∀j,j≠w→ y.mat j≤(winS x v e).g.ack y.term j)∧upd x.acc v (x.ns v).term w=y.term) (fun w hwv hr'=>by
   obtain⟨⟨m,k1⟩,k2,k3,k4,k5⟩:=h.lead w hr';have ht:(x.ns w).term≠(x.ns v).term:=fun ht=>by rw[ht,hnone]at k1;cases k1
   refine⟨⟨m,by rw[hEn _ ht];exact k1⟩,by rw[hLn _ ht];exact k2,by rw[hAn _ _ (fun k=>ht k.1)];exact k3,fun j hj=>by rw[hAn _ _ (fun k=>ht k.1)];exact k4 j hj,by rw[upd_ne _ _ hwv];exact k5⟩) (fun _=>⟨⟨_,hEt⟩,hLt.symm,hAt,fun j _=>Nat.zero_le _,upd_same _ _ _⟩)
  acc:=fun w=>by
   rw[hterm w];show upd x.acc v (x.ns v).term w≤(x.ns w).term∧(upd x.acc v (x.ns v).term w≠0→ ((winS x v e).g.el (upd x.acc v (x.ns v).term w)).isSome=true)∧0≤ upd x.acc v (x.ns v).term w
   by_cases e1:w= v
   ·subst e1;rw[upd_same];exact⟨Int.le_refl _,fun _=>by rw[hEt];rfl,by omega⟩
   ·rw[upd_ne _ _ e1];obtain⟨k1,k2,k3⟩:=h.acc w;refine⟨k1,fun k=> ?_,k3⟩;obtain⟨q,hq⟩:=Option.isSome_iff_exists.1 (k2 k);rw[hx.el _ _ hq];rfl
  ack:=fun s w hs=>by
   have hs':upd x.acc v (x.ns v).term w<s:= hs;by_cases e1:w= v
   ·subst e1;rw[upd_same]at hs';rw[hAn s w (fun k=>by omega)];exact h.ack s w (by have:=(h.acc w).1;omega)
   ·rw[upd_ne _ _ e1]at hs';rw[hAn s w (fun k=>e1 k.2)];exact h.ack s w hs'
  held:=fun s w i hi hall=>by
   by_cases e1:w= v
   ·subst e1;have hns:((winS x w e).ns w).log=(x.ns w).log++[e]:=by show(upd x.ns w _ w).log=_;rw[upd_same]
    rw[hns];have hacc:(winS x w e).acc w=(x.ns w).term:=upd_same _ _ _;rcases Int.lt_trichotomy s (x.ns w).term with hs|hs| hs
    ·rw[hAn s w (fun k=>by omega)]at hi;rw[hLn s o_];have k1:=hall (x.ns w).term w (x.ns w).log hs (by rw[hacc];exact Int.le_refl _) hEt;rw[hLn s o_]at k1;have k2:i≤ (x.ns w).log.length:=take_len k1.symm (Nat.le_trans hi (h.hist.ack s w));rw[List.take_append_of_le_length k2];exact k1
    ·subst hs;rw[hLt]
    ·rw[hAn s w (fun k=>by omega),h.ack s w (by have:=(h.acc w).1;omega)]at hi;rw[show i=0 by omega];rfl
   ·have hns:((winS x v e).ns w).log=(x.ns w).log:=by show(upd x.ns v _ w).log=_;rw[upd_ne _ _ e1]
    have hacc:(winS x v e).acc w=x.acc w:=upd_ne _ _ e1;rw[hns];rw[hAn s w (fun k=>e1 k.2)]at hi;by_cases hs:s= (x.ns v).term
    ·rw[hs,hack0]at hi;rw[show i=0 by omega];rfl
    ·rw[hLn s hs]at hall ⊢;exact h.held s w i hi fun s' k m k1 k2 k3=>hall s' k m k1 (by rw[hacc];exact k2) (hx.el _ _ k3)
  com:=key (fun _ y=>y.com≤ y.log.length∧ComT (winS x v e).g y.term (y.log.take y.com)) (fun w _=>⟨(h.com w).1,(h.com w).2.ext hx (fun s i m hc=>by have:=(h.hist.cert s i m hc).2;omega)⟩) (by
   obtain⟨k1,k2⟩:=h.com v;refine⟨by show(x.ns v).com≤((x.ns v).log++[e]).length;rw[List.length_append];omega,?_⟩;show ComT _ _ (((x.ns v).log++[e]).take (x.ns v).com)
   rw[List.take_append_of_le_length k1]
   exact k2.ext hx (fun s i m hc=>by have:=(h.hist.cert s i m hc).2;omega))}
end
section
variable {E:Type} {tm:E→ Int} {cf:E→ Option (Nat→Bool)} {c0:Nat→ Bool} {x:Sys E}
theorem get_congr{α:Type}{l m:List α}(e:l= m){j:Nat}(hj:j< l.length)(hj':j< m.length):l[j]=m[j]:=by subst e;rfl
def putS(x:Sys E)(v:Nat)(e:E):Sys E:=
 {x with ns:=upd x.ns v {x.ns v with log:=(x.ns v).log++[e]},g:=grow x.g (x.ns v).term v ((x.ns v).log++[e])}
theorem Ext.put(h:Inv tm cf c0 x){v:Nat}(hr:(x.ns v).role=2)(e:E):Ext x (putS x v e):=by
 obtain⟨⟨m,hm⟩,h2,h3,h4,_⟩:=h.lead v hr
 exact{
  el:=fun _ _ he=>he
  L:=fun t=>by
   by_cases h1:t= (x.ns v).term
   ·subst h1;exact⟨[e],by show updT x.g.L _ _ _=_;rw[updT_same,h2]⟩
   ·exact⟨[],by show updT x.g.L _ _ _=_;rw[updT_ne _ _ h1,List.append_nil]⟩
  vt:=fun _ _ _ he=>he
  ack:=fun t w=>by
   show _≤if t=(x.ns v).term∧w= v then _ else x.g.ack t w
   by_cases h1:t= (x.ns v).term∧w= v
   ·rw[if_pos h1,h1.1,h1.2,h3,List.length_append];omega
   ·rw[if_neg h1];exact Nat.le_refl _
  old:=fun t w k he u hu=>by
   show(if u=(x.ns v).term∧w= v then _ else x.g.ack u w)=_
   refine if_neg fun h1=> ?_
   obtain⟨rfl,rfl⟩:=h1;have:=(h.votes t w k.1 k.2 he).1;omega
  cert:=fun _ _ _ he=>he
  ck:=fun _ _ _ he=>he}
theorem Inv.put(h:Inv tm cf c0 x){v:Nat}(hr:(x.ns v).role=2){e:E}(he:tm e=(x.ns v).term)(hrule:∀c,cf e=some c→Close (lat cf c0 (x.ns v).log) c∧(∃i m,x.g.cert (x.ns v).term i m)∧∀a (ha:a< (x.ns v).log.length),tm (x.ns v).log[a]=(x.ns v).term→(cf (x.ns v).log[a]).isSome=true→ ∃i m,x.g.cert (x.ns v).term i m∧a+ 1≤i):Inv tm cf c0 (putS x v e):=by
 obtain⟨⟨ml,hel⟩,hL0,hack,hmat,haccv⟩:=h.lead v hr;have hx:=Ext.put h hr e;have hlog:=h.log v;have hLt:(putS x v e).g.L (x.ns v).term=(x.ns v).log++[e]:=updT_same _ _ _;have hLn:∀t,t≠(x.ns v).term→(putS x v e).g.L t=x.g.L t:=fun t ht=>updT_ne _ _ ht
 have hAn:∀s w,¬(s=(x.ns v).term∧w= v)→(putS x v e).g.ack s w=x.g.ack s w:=fun s w hn=>if_neg hn
 have hAt:(putS x v e).g.ack (x.ns v).term v=((x.ns v).log++[e]).length:=if_pos ⟨rfl,rfl⟩;have hgood:Good tm (putS x v e).g ((x.ns v).log++[e]):=fun i hi=>by
  rw[List.length_append]at hi;by_cases hi':i< (x.ns v).log.length
  ·have:=(hlog.ext hx) i hi';rw[List.getElem_append_left hi',List.take_append_of_le_length o_];exact this
  ·have e1:i= (x.ns v).log.length:=by simp at hi;omega
   subst e1;have e2:((x.ns v).log++[e])[(x.ns v).log.length]=e:= by simp
   rw[e2,he,hLt];exact⟨by show(x.g.el _).isSome=true;rw[hel];rfl,rfl⟩
 have key:∀(P:Nat→ Nd E→Prop),(∀w,w≠v→ P w (x.ns w))→P v {x.ns v with log:=(x.ns v).log++[e]}→∀w,P w ((putS x v e).ns w):=fun P k1 k2 w=>by
  show P w (upd x.ns v _ w)
  by_cases e:w= v
  ·subst e;rw[upd_same];exact k2
  ·rw[upd_ne _ _ e];exact k1 w e
 have hterm:∀w,((putS x v e).ns w).term=(x.ns w).term:=key (fun w y=>y.term= (x.ns w).term) (fun _ _=>rfl) rfl;have hltl:lt tm ((x.ns v).log++[e])=(x.ns v).term:=by rw[lt_snoc,he]
 have hent:∀b (hb:b< ((putS x v e).g.L (x.ns v).term).length),(∃hb': b<(x.ns v).log.length,((putS x v e).g.L (x.ns v).term)[b]=(x.ns v).log[b]∧∃hb'': b<(x.g.L (x.ns v).term).length,(x.g.L (x.ns v).term)[b]=(x.ns v).log[b])∨(b=(x.ns v).log.length∧((putS x v e).g.L (x.ns v).term)[b]=e):=fun b hb=>by
  have hb':b< ((x.ns v).log++[e]).length:=by rw[←hLt];exact hb
  rw[get_congr hLt hb hb'];by_cases hi:b< (x.ns v).log.length
  ·exact .inl ⟨hi,List.getElem_append_left hi,by rw[←hL0];exact hi,get_congr hL0.symm _ _⟩
  ·have e1:b= (x.ns v).log.length:=by simp at hb';omega
   subst e1;exact .inr ⟨rfl,by simp⟩
 have hlen:=congrArg List.length hL0
 exact{
  hist:={
   pos:=h.hist.pos
   wina:=fun t k m k1=>(h.hist.wina t k m k1).ext hx h.hist.ack
   own:=fun t k m k1=>by
    by_cases ht:t= (x.ns v).term
    ·subst ht;obtain⟨r,k2,k3⟩:=h.hist.own _ _ _ k1;refine⟨r++[e],by rw[hLt,hL0,k2,List.append_assoc],fun y hy=> ?_⟩;rcases List.mem_append.1 hy with hy|hy
     ·exact k3 y hy
     ·rw[List.mem_singleton.1 hy];exact he
    ·rw[hLn t ht];exact h.hist.own t k m k1
   good:=fun t=>by
    by_cases ht:t= (x.ns v).term
    ·subst ht;rw[hLt];exact hgood
    ·rw[hLn t ht];exact(h.hist.good t).ext hx
   sort:=fun t=>by
    by_cases ht:t= (x.ns v).term
    ·subst ht;rw[hLt,List.pairwise_append];refine⟨h.hist.sorted hlog,List.pairwise_singleton _ _,fun a ha b hb=> ?_⟩;obtain⟨i,hi,rfl⟩:=List.getElem_of_mem ha;rw[List.mem_singleton.1 hb,he];have:=h.hist.le_lt hlog hi;have:=h.low v;omega
    ·rw[hLn t ht];exact h.hist.sort t
   ack:=fun s w=>by
    by_cases hs:s= (x.ns v).term∧w= v
    ·rw[hs.1,hs.2,hAt,hLt];exact Nat.le_refl _
    ·rw[hAn s w hs];exact Nat.le_trans (h.hist.ack s w) (hx.len s)
   cert:=fun s i m hc=>by
    obtain⟨k1,k2,k3,k4,k5,q,k6,k7⟩:=h.hist.cert s i m hc;refine⟨k1,k2,k3,Nat.le_trans k4 (hx.len s),fun hi=> ?_,q,by rw[hx.take k4];exact k6,fun w hwq=>Nat.le_trans (k7 w hwq) (hx.ack s w)⟩;have k8:=get_of_take (i:=m) (hx.take k4) (j:=i- 1) o_ hi o_;rw[k8];exact k5 _
   first:=fun s b hb ht hc=>by
    by_cases hs:s= (x.ns v).term
    ·subst hs;rcases hent b hb with⟨k1,k2,k3,k4⟩|⟨k1,k2⟩
     ·rw[k2,←k4]at ht hc;exact h.hist.first _ b k3 ht hc
     ·rw[k2]at hc;obtain⟨c,hc'⟩:=Option.isSome_iff_exists.1 hc;obtain⟨_,⟨i,m,k3⟩,_⟩:=hrule c hc';exact⟨i,m,k3,by have:=(h.hist.cert _ _ _ k3).2;omega⟩
    ·have hb':b< (x.g.L s).length:=by rw[←hLn s hs];exact hb
     rw[get_congr (hLn s hs) hb hb']at ht hc;exact h.hist.first s b hb' ht hc
   two:=fun s a b hb hab ht ht2 hc hc2=>by
    by_cases hs:s= (x.ns v).term
    ·subst hs;rcases hent b hb with⟨k1,k2,k3,k4⟩|⟨k1,k2⟩
     ·rw[k2,←k4]at ht hc;have ha:a< ((putS x v e).g.L (x.ns v).term).length:=o_;rcases hent a ha with⟨l1,l2,l3,l4⟩|⟨l1,l2⟩
      ·rw[l2,←l4]at ht2 hc2;exact h.hist.two _ a b k3 hab ht ht2 hc hc2
      ·omega
     ·rw[k2]at hc;have ha:a< ((putS x v e).g.L (x.ns v).term).length:=o_;rcases hent a ha with⟨l1,l2,l3,l4⟩|⟨l1,l2⟩
      ·rw[l2]at ht2 hc2;obtain⟨c,hc'⟩:=Option.isSome_iff_exists.1 hc;obtain⟨_,_,k3⟩:=hrule c hc';obtain⟨i,m,k4,k5⟩:=k3 a l1 ht2 hc2;exact⟨i,m,k4,by have:=(h.hist.cert _ _ _ k4).2;omega,k5⟩
      ·omega
    ·have hb':b< (x.g.L s).length:=by rw[←hLn s hs];exact hb
     rw[get_congr (hLn s hs) hb hb']at ht hc;rw[get_congr (hLn s hs) o_ (by omega:a< (x.g.L s).length)]at ht2 hc2;exact h.hist.two s a b hb' hab ht ht2 hc hc2
   close:=fun s b hb c hc=>by
    by_cases hs:s= (x.ns v).term
    ·subst hs;rcases hent b hb with⟨k1,k2,k3,k4⟩|⟨k1,k2⟩
     ·rw[k2,←k4]at hc;rw[hx.take o_];exact h.hist.close _ b k3 c hc
     ·rw[k2]at hc;rw[hLt,k1,List.take_append_of_le_length n_,List.take_length];exact(hrule c hc).1
    ·have hb':b< (x.g.L s).length:=by rw[←hLn s hs];exact hb
     rw[get_congr (hLn s hs) hb hb']at hc;rw[hLn s hs]
     exact h.hist.close s b hb' c hc}
  none0:=fun t k1=>by
   have ht:t≠ (x.ns v).term:=fun ht=>by
    subst ht;have k2:x.g.el (x.ns v).term=none:= k1;rw[hel]at k2;cases k2
   rw[hLn t ht];exact h.none0 t k1
  log:=key (fun _ y=>Good tm (putS x v e).g y.log) (fun w _=>(h.log w).ext hx) hgood
  term0:=key (fun _ y=>0≤ y.term) (fun w _=>h.term0 w) (h.term0 v)
  low:=key (fun _ y=>lt tm y.log≤y.term) (fun w _=>h.low w) (by show lt tm ((x.ns v).log++[e])≤(x.ns v).term;rw[hltl];exact Int.le_refl _)
  elt:=fun t k m k1=>by rw[hterm k];exact h.elt t k m k1
  votes:=fun t w c l hv=>by
   rw[hterm w];obtain⟨k1,ml,k2,k3,k4,k5⟩:=h.votes t w c l hv;exact⟨k1,ml,k2,k3.ext hx,k4,k5.ext hx h.hist.ack hv⟩
  now:=key (fun w y=>y.vote= ((x.g.vt y.term w).map Prod.fst).getD 0) (fun w _=>h.now w) (h.now v)
  vt0:=h.vt0
  ckt:=fun t c l hc=>by rw[hterm c];exact h.ckt t c l hc
  cand:=key (fun w y=>y.role= 1→x.ck y.term w=some y.log∧lt tm y.log<y.term∧ 1≤y.term∧ (∀k m,x.g.el y.term=some (k,m)→k≠ w)∧∀j,y.yes j=true→ ∃l,x.g.vt y.term j=some (w,l)) (fun w _ hr'=>h.cand w hr') (fun hr'=>by
   have:(x.ns v).role=1:= hr'
   rw[hr]at this;cases this)
  lead:=key (fun w y=>y.role= 2→(∃m,x.g.el y.term=some (w,m))∧y.log= (putS x v e).g.L y.term∧(putS x v e).g.ack y.term w=y.log.length∧ (∀j,j≠w→ y.mat j≤(putS x v e).g.ack y.term j)∧x.acc w=y.term) (fun w hwv hr'=>by
   obtain⟨⟨m,k1⟩,k2,k3,k4,k5⟩:=h.lead w hr';have ht:(x.ns w).term≠(x.ns v).term:=fun ht=>by
    rw[ht,hel]at k1;cases k1;exact hwv rfl
   refine⟨⟨m,k1⟩,by rw[hLn _ ht];exact k2,by rw[hAn _ _ (fun k=>ht k.1)];exact k3,fun j hj=>by rw[hAn _ _ (fun k=>ht k.1)];exact k4 j hj,k5⟩) (fun _=>⟨⟨_,hel⟩,hLt.symm,hAt,fun j hj=>by
   rw[hAn _ _ (fun k=>hj k.2)];exact hmat j hj,haccv⟩)
  acc:=fun w=>by rw[hterm w];exact h.acc w
  ack:=fun s w hs=>by
   rw[hAn s w (fun k=> ?_)]
   ·exact h.ack s w hs
   ·obtain⟨rfl,rfl⟩:=k;have hs':x.acc w<(x.ns w).term:=hs;omega
  held:=fun s w i hi hall=>by
   by_cases e1:w= v
   ·subst e1;have hns:((putS x w e).ns w).log=(x.ns w).log++[e]:=by show(upd x.ns w _ w).log=_;rw[upd_same]
    rw[hns];by_cases hs:s= (x.ns w).term
    ·subst hs;rw[hLt]
    ·rw[hAn s w (fun k=>hs k.1)]at hi;rw[hLn s hs]at hall ⊢;have k1:=h.held s w i hi hall;have k2:i≤ (x.ns w).log.length:=take_len k1.symm (Nat.le_trans hi (h.hist.ack s w));rw[List.take_append_of_le_length k2];exact k1
   ·have hns:((putS x v e).ns w).log=(x.ns w).log:=by show(upd x.ns v _ w).log=_;rw[upd_ne _ _ e1]
    rw[hns];rw[hAn s w (fun k=>e1 k.2)]at hi;have k0:=Nat.le_trans hi (h.hist.ack s w);rw[hx.take k0]at hall ⊢;exact h.held s w i hi hall
  com:=key (fun _ y=>y.com≤ y.log.length∧ComT (putS x v e).g y.term (y.log.take y.com)) (fun w _=>⟨(h.com w).1,(h.com w).2.ext hx (fun s i m hc=>by have:=(h.hist.cert s i m hc).2;omega)⟩) (by
   obtain⟨k1,k2⟩:=h.com v;refine⟨by show(x.ns v).com≤((x.ns v).log++[e]).length;rw[List.length_append];omega,?_⟩;show ComT _ _ (((x.ns v).log++[e]).take (x.ns v).com)
   rw[List.take_append_of_le_length k1]
   exact k2.ext hx (fun s i m hc=>by have:=(h.hist.cert s i m hc).2;omega))}
end
section
variable {E:Type} {tm:E→ Int} {cf:E→ Option (Nat→Bool)} {c0:Nat→ Bool} {x:Sys E}
def takeS(x:Sys E)(v:Nat)(l:List E)(n c:Nat):Sys E:=
 {x with ns:=upd x.ns v {x.ns v with log:=l,role:=0,com:=c},g:={x.g with ack:=fun s w=>if s=(x.ns v).term∧w= v then max (x.g.ack s w) n else x.g.ack s w},acc:=upd x.acc v (x.ns v).term}
theorem Ext.take_over(h:Inv tm cf c0 x)(v:Nat)(l:List E)(n c:Nat):Ext x (takeS x v l n c):=
 {el:=fun _ _ he=>he
  L:=fun t=>⟨[],(List.append_nil _).symm⟩
  vt:=fun _ _ _ he=>he
  ack:=fun t w=>by
   show _≤if t=(x.ns v).term∧w= v then _ else x.g.ack t w
   split
   ·exact Nat.le_max_left _ _
   ·exact Nat.le_refl _
  old:=fun t w k he u hu=>by
   show(if u=(x.ns v).term∧w= v then _ else x.g.ack u w)=_
   refine if_neg fun h1=> ?_
   obtain⟨rfl,rfl⟩:=h1;have:=(h.votes t w k.1 k.2 he).1;omega
  cert:=fun _ _ _ he=>he
  ck:=fun _ _ _ he=>he}
theorem Inv.take_over(h:Inv tm cf c0 x){v:Nat}{l:List E}{n c k:Nat}{m:List E}(hel:x.g.el (x.ns v).term=some (k,m))(hn:n≤ (x.g.L (x.ns v).term).length)(hcase:(l=(x.ns v).log∧(x.ns v).log.take n=(x.g.L (x.ns v).term).take n)∨(l=(x.g.L (x.ns v).term).take n∧∀i,i≤(x.ns v).log.length→(x.ns v).log.take i=(x.g.L (x.ns v).term).take i→i≤ n))(hc:c= (x.ns v).com∨(c≤n∧ ComT x.g (x.ns v).term ((x.g.L (x.ns v).term).take c))):Inv tm cf c0 (takeS x v l n c):=by
 have hx:=Ext.take_over h v l n c;have hlog:=h.log v;have hpos:=h.hist.pos _ _ _ hel;have hAn:∀s w,¬(s=(x.ns v).term∧w= v)→(takeS x v l n c).g.ack s w=x.g.ack s w:=fun s w hn=>if_neg hn
 have hAt:(takeS x v l n c).g.ack (x.ns v).term v=max (x.g.ack (x.ns v).term v) n:=if_pos ⟨rfl,rfl⟩;have hkeep:∀i,i≤(x.ns v).log.length→(x.ns v).log.take i=(x.g.L (x.ns v).term).take i→l.take i=(x.g.L (x.ns v).term).take i:=fun i h1 h2=>by
  rcases hcase with⟨h3,_⟩|⟨h3,h4⟩
  ·rw[h3];exact h2
  ·rw[h3,List.take_take,Nat.min_eq_left (h4 i h1 h2)]
 have hnew:∀i,i≤n→ l.take i=(x.g.L (x.ns v).term).take i:=fun i hi=>by
  rcases hcase with⟨h3,h4⟩|⟨h3,_⟩
  ·rw[h3];have:=congrArg (List.take i) h4;rw[List.take_take,List.take_take,Nat.min_eq_left hi]at this;exact this
  ·rw[h3,List.take_take,Nat.min_eq_left hi]
 have hln:n≤ l.length:=take_len (hnew n n_).symm hn;have hgood:Good tm x.g l:=by
  rcases hcase with⟨h3,_⟩|⟨h3,_⟩
  ·rw[h3];exact hlog
  ·rw[h3];exact(h.hist.good _).take n
 have hterm_le:∀j (hj:j< (x.g.L (x.ns v).term).length),tm (x.g.L (x.ns v).term)[j]≤(x.ns v).term:=fun j hj=>by
  obtain⟨r,k1,k2⟩:=h.hist.own _ _ _ hel;have hm:(x.g.L (x.ns v).term)[j]∈m++ r:=by rw[←k1];exact List.getElem_mem hj
  rcases List.mem_append.1 hm with h3|h3
  ·obtain⟨q,hq,hqx⟩:=List.getElem_of_mem h3;have w:=h.hist.win _ _ _ hel;have h4:=h.hist.le_lt w.good hq;have:=w.low;rw[hqx]at h4;omega
  ·rw[k2 _ h3];exact Int.le_refl _
 have hlow:lt tm l≤(x.ns v).term:=by
  rcases hcase with⟨h3,_⟩|⟨h3,_⟩
  ·rw[h3];exact h.low v
  ·by_cases h0:0< l.length
   ·rw[lt_get tm h0];have h5:l.length≤ (x.g.L (x.ns v).term).length:=by rw[h3,List.length_take];omega
    have h6:l[l.length-1]'o_=(x.g.L (x.ns v).term)[l.length-1]'o_:=by
     rw[get_congr h3 o_ (by rw[←h3];omega),List.getElem_take]
    rw[h6];exact hterm_le _ _
   ·have e:l.length= 0:=o_;rw[List.length_eq_zero_iff.1 e];exact h.term0 v
 have key:∀(P:Nat→ Nd E→Prop),(∀w,w≠v→ P w (x.ns w))→P v {x.ns v with log:=l,role:=0,com:=c}→∀w,P w ((takeS x v l n c).ns w):=fun P k1 k2 w=>by
  show P w (upd x.ns v _ w)
  by_cases e:w= v
  ·subst e;rw[upd_same];exact k2
  ·rw[upd_ne _ _ e];exact k1 w e
 have hterm:∀w,((takeS x v l n c).ns w).term=(x.ns w).term:=key (fun w y=>y.term= (x.ns w).term) (fun _ _=>rfl) rfl;have hcomL:=h.hist.leads hel (h.com v).2;rw[List.length_take,Nat.min_eq_left (h.com v).1]at hcomL
 exact{
  hist:={h.hist with
   wina:=fun t k m k1=>(h.hist.wina t k m k1).ext hx h.hist.ack
   ack:=fun s w=>by
    by_cases hs:s= (x.ns v).term∧w= v
    ·rw[hs.1,hs.2,hAt];exact Nat.max_le.2 ⟨h.hist.ack _ _,hn⟩
    ·rw[hAn s w hs];exact h.hist.ack s w
   cert:=fun s i m hc=>by
    obtain⟨k1,k2,k3,k4,k5,q,k6,k7⟩:=h.hist.cert s i m hc
    exact⟨k1,k2,k3,k4,k5,q,k6,fun w hwq=>Nat.le_trans (k7 w hwq) (hx.ack s w)⟩}
  none0:=h.none0
  log:=key (fun _ y=>Good tm x.g y.log) (fun w _=>h.log w) hgood
  term0:=key (fun _ y=>0≤ y.term) (fun w _=>h.term0 w) (h.term0 v)
  low:=key (fun _ y=>lt tm y.log≤y.term) (fun w _=>h.low w) hlow
  elt:=fun t k m k1=>by rw[hterm k];exact h.elt t k m k1
  votes:=fun t w d q hv=>by
   rw[hterm w];obtain⟨k1,ml,k2,k3,k4,k5⟩:=h.votes t w d q hv;exact⟨k1,ml,k2,k3,k4,k5.ext hx h.hist.ack hv⟩
  now:=key (fun w y=>y.vote= ((x.g.vt y.term w).map Prod.fst).getD 0) (fun w _=>h.now w) (h.now v)
  vt0:=h.vt0
  ckt:=fun t d q hc=>by rw[hterm d];exact h.ckt t d q hc
  cand:=key (fun w y=>y.role= 1→x.ck y.term w=some y.log∧lt tm y.log<y.term∧ 1≤y.term∧ (∀k m,x.g.el y.term=some (k,m)→k≠ w)∧∀j,y.yes j=true→ ∃l,x.g.vt y.term j=some (w,l)) (fun w _ hr'=>h.cand w hr') (fun hr'=>by cases hr')
  lead:=key (fun w y=>y.role= 2→(∃m,x.g.el y.term=some (w,m))∧y.log= x.g.L y.term∧(takeS x v l n c).g.ack y.term w=y.log.length∧ (∀j,j≠w→ y.mat j≤(takeS x v l n c).g.ack y.term j)∧upd x.acc v (x.ns v).term w=y.term) (fun w hwv hr'=>by
   obtain⟨k1,k2,k3,k4,k5⟩:=h.lead w hr'
   exact⟨k1,k2,by rw[hAn _ _ (fun k=>hwv k.2)];exact k3,fun j hj=>Nat.le_trans (k4 j hj) (hx.ack _ _),by rw[upd_ne _ _ hwv];exact k5⟩) (fun hr'=>by cases hr')
  acc:=fun w=>by
   rw[hterm w];show upd x.acc v (x.ns v).term w≤(x.ns w).term∧(upd x.acc v (x.ns v).term w≠0→ (x.g.el (upd x.acc v (x.ns v).term w)).isSome=true)∧0≤ upd x.acc v (x.ns v).term w
   by_cases e1:w= v
   ·subst e1;rw[upd_same];exact⟨Int.le_refl _,fun _=>by rw[hel];rfl,by omega⟩
   ·rw[upd_ne _ _ e1];exact h.acc w
  ack:=fun s w hs=>by
   have hs':upd x.acc v (x.ns v).term w<s:= hs;by_cases e1:w= v
   ·subst e1;rw[upd_same]at hs';rw[hAn s w (fun k=>by omega)];exact h.ack s w (by have:=(h.acc w).1;omega)
   ·rw[upd_ne _ _ e1]at hs';rw[hAn s w (fun k=>e1 k.2)];exact h.ack s w hs'
  held:=fun s w i hi hall=>by
   by_cases e1:w= v
   ·subst e1;have hns:((takeS x w l n c).ns w).log=l:= by show(upd x.ns w _ w).log=_;rw[upd_same]
    have hacc:(takeS x w l n c).acc w=(x.ns w).term:=upd_same _ _ _;rw[hns];show l.take i=(x.g.L s).take i
    rcases Int.lt_trichotomy s (x.ns w).term with hs|hs| hs
    ·rw[hAn s w (fun k=>by omega)]at hi;have k0:=Nat.le_trans hi (h.hist.ack s w);have k1:m.take i=(x.g.L s).take i:=hall (x.ns w).term k m hs (by rw[hacc];exact Int.le_refl _) hel;have k2:i≤ m.length:=take_len k1.symm k0;obtain⟨r,k3,_⟩:=h.hist.own _ _ _ hel;have k4:(x.g.L (x.ns w).term).take i=(x.g.L s).take i:=by rw[k3,List.take_append_of_le_length k2];exact k1
     have k5:=h.held s w i hi fun s' k' m' h1 h2 h3=>hall s' k' m' h1 (by rw[hacc];exact Int.le_trans h2 (h.acc w).1) h3
     rw[←k4];exact hkeep i (take_len k5.symm k0) (by rw[k4];exact k5)
    ·subst hs;rw[hAt]at hi;by_cases h1:i≤ n
     ·exact hnew i h1
     ·have k5:=h.held (x.ns w).term w i o_ fun s' k' m' h1 h2 h3=>by have:=(h.acc w).1;omega
      exact hkeep i (take_len k5.symm (by have:=h.hist.ack (x.ns w).term w;omega)) k5
    ·rw[hAn s w (fun k=>by omega),h.ack s w (by have:=(h.acc w).1;omega)]at hi;rw[show i=0 by omega];rfl
   ·have hns:((takeS x v l n c).ns w).log=(x.ns w).log:=by show(upd x.ns v _ w).log=_;rw[upd_ne _ _ e1]
    have hacc:(takeS x v l n c).acc w=x.acc w:=upd_ne _ _ e1;rw[hns];rw[hAn s w (fun k=>e1 k.2)]at hi;exact h.held s w i hi fun s' k m k1 k2 k3=>hall s' k m k1 (by rw[hacc];exact k2) k3
  com:=key (fun _ y=>y.com≤ y.log.length∧ComT x.g y.term (y.log.take y.com)) (fun w _=>h.com w) (by
   show c≤l.length∧ ComT x.g (x.ns v).term (l.take c)
   rcases hc with rfl|⟨h1,h2⟩
   ·have k1:=hkeep _ (h.com v).1 hcomL.2.symm;refine⟨take_len k1.symm hcomL.1,?_⟩;rw[k1,hcomL.2];exact(h.com v).2
   ·exact⟨by omega,by rw[hnew c h1];exact h2⟩)}
def comS(x:Sys E)(v i:Nat):Sys E:=
 {x with ns:=upd x.ns v {x.ns v with com:=i},g:={x.g with cert:=fun a b c=>x.g.cert a b c∨(a=(x.ns v).term∧b= i∧c= (x.ns v).log.length)}}
theorem Ext.count(x:Sys E)(v i:Nat):Ext x (comS x v i):=⟨fun _ _ e=>e,fun _=>⟨[],(List.append_nil _).symm⟩,fun _ _ _ e=>e,fun _ _=>Nat.le_refl _,fun _ _ _ _ _ _=>rfl,fun _ _ _ e=> .inl e,fun _ _ _ e=>e⟩
theorem Inv.count(h:Inv tm cf c0 x){v i:Nat}(hr:(x.ns v).role=2)(hi:1≤ i)(hil:i≤ (x.ns v).log.length)(ht:tm ((x.ns v).log[i-1]'o_)=(x.ns v).term){q:Nat→ Bool}(hq:Maj (lat cf c0 (x.ns v).log) q)(hqa:∀j,q j=true→ j=v∨ i≤(x.ns v).mat j):Inv tm cf c0 (comS x v i):=by
 have hx:=Ext.count x v i;obtain⟨⟨m,hel⟩,hL,hack,hmat,hacc⟩:=h.lead v hr;have key:∀(P:Nat→ Nd E→Prop),(∀w,P w (x.ns w))→(P v (x.ns v)→P v {x.ns v with com:=i})→∀w,P w (upd x.ns v {x.ns v with com:=i} w):=fun P h1 h2 w=>by
  by_cases e:w= v
  ·subst e;rw[upd_same];exact h2 (h1 _)
  ·rw[upd_ne _ _ e];exact h1 w
 have hterm:∀w,((comS x v i).ns w).term=(x.ns w).term:=key (fun w y=>y.term= (x.ns w).term) (fun _=>rfl) id;have hnew:(comS x v i).g.cert (x.ns v).term i (x.ns v).log.length:= .inr ⟨rfl,rfl,rfl⟩
 exact{
  hist:={h.hist with
   wina:=fun t k m k1=>(h.hist.wina t k m k1).ext hx h.hist.ack
   cert:=fun s a b hc=>by
    rcases hc with hc|⟨rfl,rfl,rfl⟩
    ·exact h.hist.cert s a b hc
    ·refine⟨by show(x.g.el _).isSome=true;rw[hel];rfl,hi,hil,by rw[hL];exact Nat.le_refl _,fun hj=> ?_,q,?_,fun j hj=> ?_⟩
     ·exact(congrArg tm (get_congr hL.symm _ _)).trans ht
     ·show Maj (lat cf c0 ((x.g.L _).take _)) q
      rw[hL,List.take_length,←hL];exact hq
     ·show a≤x.g.ack (x.ns v).term j
      rcases hqa j hj with rfl|k1
      ·rw[hack];exact hil
      ·by_cases e:j= v
       ·subst e;rw[hack];exact hil
       ·exact Nat.le_trans k1 (hmat j e)
   first:=fun s b hb k1 k2=>by
    obtain⟨a,m,k3,k4⟩:=h.hist.first s b hb k1 k2
    exact⟨a,m,.inl k3,k4⟩
   two:=fun s a b hb hab k1 k2 k3 k4=>by
    obtain⟨a',m,k5,k6⟩:=h.hist.two s a b hb hab k1 k2 k3 k4
    exact⟨a',m,.inl k5,k6⟩}
  none0:=h.none0
  log:=key (fun _ y=>Good tm x.g y.log) h.log id
  term0:=key (fun _ y=>0≤ y.term) h.term0 id
  low:=key (fun _ y=>lt tm y.log≤y.term) h.low id
  elt:=fun t k m e=>by rw[hterm k];exact h.elt t k m e
  votes:=fun t w d l e=>by rw[hterm w];exact h.votes t w d l e
  now:=key (fun w y=>y.vote= ((x.g.vt y.term w).map Prod.fst).getD 0) h.now id
  vt0:=h.vt0
  ckt:=fun t d l e=>by rw[hterm d];exact h.ckt t d l e
  cand:=key (fun w y=>y.role= 1→x.ck y.term w=some y.log∧lt tm y.log<y.term∧ 1≤y.term∧ (∀k m,x.g.el y.term=some (k,m)→k≠ w)∧∀j,y.yes j=true→ ∃l,x.g.vt y.term j=some (w,l)) h.cand id
  lead:=key (fun w y=>y.role= 2→(∃m,x.g.el y.term=some (w,m))∧y.log= x.g.L y.term∧x.g.ack y.term w=y.log.length∧ (∀j,j≠w→ y.mat j≤x.g.ack y.term j)∧x.acc w=y.term) h.lead id
  acc:=key (fun w y=>x.acc w≤y.term∧ (x.acc w≠0→ (x.g.el (x.acc w)).isSome=true)∧0≤ x.acc w) h.acc id
  ack:=h.ack
  held:=fun s w i=>key (fun w y=>∀s i,i≤x.g.ack s w→(∀s' k m,s<s'→ s'≤x.acc w→x.g.el s'=some (k,m)→m.take i=(x.g.L s).take i)→y.log.take i=(x.g.L s).take i) (fun w s i=>h.held s w i) id w s i
  com:=fun w=>by
   show(upd x.ns v _ w).com≤(upd x.ns v _ w).log.length∧ComT (comS x v i).g (upd x.ns v _ w).term ((upd x.ns v _ w).log.take (upd x.ns v _ w).com)
   by_cases e:w= v
   ·subst e;rw[upd_same];refine⟨hil,.inr ⟨_,i,_,Int.le_refl _,hnew,by rw[List.length_take];exact Nat.min_le_left _ _,?_⟩⟩;show(x.ns w).log.take i=(x.g.L (x.ns w).term).take ((x.ns w).log.take i).length
    rw[←hL,List.length_take,Nat.min_eq_left hil]
   ·rw[upd_ne _ _ e];obtain⟨k1,k2⟩:=h.com w;refine⟨k1,?_⟩;rcases k2 with k2|⟨s,a,b,k3,k4,k5⟩
    ·exact .inl k2
    ·exact .inr ⟨s,a,b,k3,.inl k4,k5⟩}
end
end Go.Proofs.YtoeofkcpclfnhaaGreat.Raf
namespace Go.Proofs.YtoeofkcpclfnhaaGreat
open Go.ChangeShapes Go.WideShapes Go.ChangeAt Go.RowKit
set_option maxRecDepth 100000
set_option maxHeartbeats 16000000
structure Prg where
 node:Int
 mat:Int
 next:Int
 deriving DecidableEq
abbrev Prg.cells(t:Prg):List Value:=[.int .i64 t.node,.int .i64 t.mat,.int .i64 t.next]
abbrev Prg.agg(t:Prg):Value:= .agg #[.int .i64 t.node,.int .i64 t.mat,.int .i64 t.next]
def layPrg:Lay Tryz.prog 116 Prg:=Lay.struct Prg.cells 3 24 (fun _=>rfl) d_ d_ (fun x u hu=>by simp at hu;rcases hu with h|h| h<;>subst h<;>rfl) k_ _ Tryz.underlying116 rfl
theorem cellsPrg{w:World}{b o:Nat}{t:Prg}(h:w.rangeAt b o t.cells):w.cell? ⟨b,o,none⟩=some (.int .i64 t.node)∧w.cell? ⟨b,o+1,none⟩=some (.int .i64 t.mat)∧w.cell? ⟨b,o+2,none⟩=some (.int .i64 t.next):=
 ⟨h 0 _ rfl,h 1 _ rfl,h 2 _ rfl⟩
theorem atPrg{w:World}{a:Option Addr}{ts:List Prg}(h:LRow layPrg w a ts){k:Nat}(hk:k< ts.length):
 ∃b o,a=some ⟨b,o,none⟩∧∀w',Below w.heap.size w w'→w'.cell? ⟨b,o+k* 3,none⟩=some (.int .i64 ts[k].node)∧w'.cell? ⟨b,o+k* 3+1,none⟩=some (.int .i64 ts[k].mat)∧w'.cell? ⟨b,o+k* 3+2,none⟩=some (.int .i64 ts[k].next):=by
 obtain⟨b,o,rfl,hc⟩:=LRow.range h hk;exact⟨b,o,rfl,fun w' hb=>cellsPrg (hc w' hb)⟩
end Go.Proofs.YtoeofkcpclfnhaaGreat
namespace Go.Proofs.YtoeofkcpclfnhaaGreat
set_option maxHeartbeats 16000000
def matOf:List Prg→Int→ Int
 |[],_=>0
 |p:: l,k=>if p.node=k then p.mat else matOf l k
def inSet(set:Nat)(k:Nat):Bool:= decide (1≤k∧ k≤7∧ set/2^ (k-1)%2= 1)
def mval(self last:Int)(l:List Prg)(k:Nat):Int:= if(k:Int)=self then last else min (matOf l k) last
def mats(set:Nat)(self last:Int)(l:List Prg):Nat→ List Int
 |0=> []
 |j+ 1=>mats set self last l j++(if inSet set (j+1)then[mval self last l (j+1)]else[])
def sizeS(set:Nat):Nat→ Nat
 |0=> 0
 |j+ 1=>sizeS set j+(if inSet set (j+1)then 1 else 0)
theorem mats_length(set:Nat)(self last:Int)(l:List Prg):∀j,(mats set self last l j).length=sizeS set j
 |0=> rfl
 |j+ 1=>by unfold mats sizeS;rw[List.length_append,mats_length];split<;>rfl
theorem sizeS_le(set:Nat):∀j,sizeS set j≤j
 |0=> Nat.le_refl _
 |j+ 1=>by have:=sizeS_le set j;unfold sizeS;split<;>omega
def yesS(set:Nat)(self:Int)(l:List Prg)(i:Int)(k:Nat):Bool:= inSet set k&&(decide ((k:Int)=self)||decide (i≤matOf l k))
def cntS(set:Nat)(self:Int)(l:List Prg)(i:Int):Nat→ Nat
 |0=> 0
 |j+ 1=>cntS set self l i j+(if yesS set self l i (j+1)then 1 else 0)
theorem cnt_mats(set:Nat)(self last:Int)(l:List Prg)(i:Int)(hi:i≤ last):∀j,(mats set self last l j).countP (fun m=>decide (i≤m))=cntS set self l i j
 |0=> rfl
 |j+ 1=>by
  unfold mats cntS;rw[List.countP_append,cnt_mats set self last l i hi j]
  congr 1
  unfold yesS;cases inSet set (j+1)
  ·rfl
  ·simp only[if_true,Bool.true_and,List.countP_singleton,mval];by_cases hs:((j+1: Nat):Int)=self
   ·rw[if_pos hs];simp[hi,hs]
   ·rw[if_neg hs];have e:decide (i≤min (matOf l (j+1: Nat)) last)=decide (i≤matOf l (j+1: Nat)):=by
     rw[decide_eq_decide];omega
    have e2:decide (((j+1: Nat):Int)=self)=false:= decide_eq_false hs;rw[e,e2,Bool.false_or]
theorem down_at{i:Int}:∀(s:List Int) (_:s.Pairwise (fun a b=>b≤ a)) (j:Nat) (h:j< s.length),i≤s[j]↔j< s.countP (fun m=>decide (i≤m))
 |[],_,j,h=>absurd h (Nat.not_lt_zero _)
 |x:: s,hp,j,h=>by
  obtain⟨h1,h2⟩:=List.pairwise_cons.1 hp;by_cases hx:i≤ x
  ·rw[List.countP_cons_of_pos (by simpa using hx)];cases j with
   |zero=> simp[hx]
   |succ j=>rw [List.getElem_cons_succ,down_at s h2 j (by simpa using h)];omega
  ·rw[List.countP_cons_of_neg (by simpa using hx)];have h0:s.countP (fun m=>decide (i≤m))=0:= by
    rw[List.countP_eq_zero];intro y hy;have:=h1 y hy;simp;omega
   rw[h0];cases j with
   |zero=> simp;omega
   |succ j=>
    have:=h1 (s[j]'(by simpa using h)) (List.getElem_mem _);simp;omega
theorem most_iff{s l:List Int}(hp:s.Perm l)(hs:s.Pairwise (fun a b=>b≤ a))(h0:0< l.length)(i:Int):
 i≤s[l.length/2]'(by rw[hp.length_eq];omega)↔l.length< 2*l.countP (fun m=>decide (i≤m)):=by
 rw[down_at s hs,hp.countP_eq];omega
def bestUp(f:Int→ Bool)(lo c:Int):Nat→ Int
 |0=> c
 |j+ 1=>if f (lo+(j+1: Nat))then lo+(j+1: Nat)else bestUp f lo c j
theorem bestUp_skip{f:Int→ Bool}{lo c:Int}{j:Nat}:∀n,(∀m,j<m→ m≤j+ n→f (lo+(m:Nat))=false)→bestUp f lo c (j+n)=bestUp f lo c j
 |0,_=>rfl
 |n+ 1,h=>by
  show(if f (lo+(j+n+ 1:Nat))then _ else bestUp f lo c (j+n))=_
  rw[if_neg (by rw[h (j+n+ 1) o_ o_];exact Bool.false_ne_true)];exact bestUp_skip n (fun m h1 h2=>h m h1 o_)
theorem bestUp_is{f:Int→ Bool}{lo c:Int}:∀j,bestUp f lo c j=c∨ (f (bestUp f lo c j)=true∧ lo<bestUp f lo c j∧bestUp f lo c j≤lo+ j)
 |0=> .inl rfl
 |j+ 1=>by
  unfold bestUp;by_cases h:f (lo+(j+1: Nat))=true
  ·rw[if_pos h];exact .inr ⟨h,by omega,by omega⟩
  ·rw[if_neg h];rcases bestUp_is (f:=f) (lo:=lo) (c:=c) j with h1|⟨h1,h2,h3⟩
   ·exact .inl h1
   ·exact .inr ⟨h1,h2,by omega⟩
def comAt(b t:Int)(es:List WEnt)(set:Nat)(self term:Int)(l:List Prg)(i:Int):Bool:= decide (termR b t es i=term)&&decide (sizeS set 7<2* cntS set self l i 7)
def comR(b t:Int)(es:List WEnt)(set:Nat)(self term com:Int)(l:List Prg):Int:= bestUp (comAt b t es set self term l) (max com b) com (b+es.length- max com b).toNat
def commitF(b t:Int)(es:List WEnt)(set:Nat)(self term com:Int)(l:List Prg):Int× Int:=
 if okR b t es=true then(if com<0∨ b+es.length< com∨term< 1∨sizeS set 7=0 then(0,2)else(comR b t es set self term com l,0))else(0,90)
end Go.Proofs.YtoeofkcpclfnhaaGreat
