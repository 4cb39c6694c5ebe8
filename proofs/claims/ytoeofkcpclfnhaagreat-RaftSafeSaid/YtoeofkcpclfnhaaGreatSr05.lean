import Derived.Test.YtoeofkcpclfnhaaGreatSrW
set_option linter.unusedVariables false
set_option linter.unusedSimpArgs false
namespace Go.Proofs.YtoeofkcpclfnhaaGreat.Raf
set_option maxHeartbeats 16000000
def num(f:Nat→ Bool):Nat:= (f 1).toNat+(f 2).toNat+(f 3).toNat+(f 4).toNat+(f 5).toNat+(f 6).toNat+(f 7).toNat
def Maj(c q:Nat→ Bool):Prop:= num c<2* num (fun j=>c j&&q j)
def Close(c d:Nat→ Bool):Prop:= ∃k,∀j,j≠k→ c j=d j
theorem Close.refl(c:Nat→ Bool):Close c c:=⟨0,fun _ _=>rfl⟩
theorem Close.symm{c d:Nat→ Bool}(h:Close c d):Close d c:=by
 obtain⟨k,h⟩:=h;exact⟨k,fun j hj=>(h j hj).symm⟩
theorem bit_any(a b p q:Bool)(h:¬(p=true∧ q=true)):2* ((a&&p).toNat+(b&&q).toNat)≤a.toNat+ b.toNat+1:= by
 cases a<;>cases b<;>cases p<;>cases q<;>simp_all
theorem bit_same(a b p q:Bool)(h:¬(p=true∧ q=true))(e:a= b):2* ((a&&p).toNat+(b&&q).toNat)≤a.toNat+ b.toNat:=by
 subst e;cases a<;>cases p<;>cases q<;>simp_all
theorem Close.meet{c d p q:Nat→ Bool}(h:Close c d)(hc:Maj c p)(hd:Maj d q):∃j,p j=true∧ q j=true:= by
 refine Classical.byContradiction fun hno=> ?_
 have hn:∀j,¬(p j=true∧ q j=true):=fun j hj=>hno ⟨j,hj⟩
 obtain⟨k,hk⟩:=h;have key:∀j,2*((c j&&p j).toNat+(d j&&q j).toNat)≤(c j).toNat+(d j).toNat+(if j=k then 1 else 0):=fun j=>by
  by_cases e:j= k
  ·rw[if_pos e];exact bit_any _ _ _ _ (hn j)
  ·rw[if_neg e];exact bit_same _ _ _ _ (hn j) (hk j e)
 have h1:=key 1;have h2:=key 2;have h3:=key 3;have h4:=key 4;have h5:=key 5;have h6:=key 6;have h7:=key 7;unfold Maj num at hc hd;simp only at hc hd;have hs:(if 1=k then 1 else 0)+(if 2=k then 1 else 0)+(if 3=k then 1 else 0)+(if 4=k then 1 else 0)+(if 5=k then 1 else 0)+(if 6=k then 1 else 0)+(if 7=k then 1 else 0)≤1:= by
  repeat' split
  all_goals omega
 omega
section
variable {E:Type} (tm:E→ Int) (cf:E→ Option (Nat→Bool)) (c0:Nat→ Bool)
def lt(l:List E):Int:= match l.getLast? with|none=> 0|some x=>tm x
def lat(l:List E):Nat→ Bool:=((l.filterMap cf).getLast?).getD c0
theorem lat_append(l m:List E)(h:∀x∈ m,cf x=none):lat cf c0 (l++m)=lat cf c0 l:=by
 unfold lat;rw[List.filterMap_append,List.filterMap_eq_nil_iff.2 h,List.append_nil]
theorem lat_snoc_some(l:List E)(x:E)(c:Nat→ Bool)(h:cf x=some c):lat cf c0 (l++[x])=c:= by
 unfold lat;rw[List.filterMap_append];simp[h]
theorem lt_nil:lt tm ([]:List E)=0:= rfl
theorem lt_snoc(l:List E)(x:E):lt tm (l++[x])=tm x:=by unfold lt;simp
theorem lt_take{l:List E}{k:Nat}(h:k< l.length):lt tm (l.take (k+1))=tm l[k]:=by
 rw[List.take_succ_eq_append_getElem h];exact lt_snoc tm _ _
theorem lt_get{l:List E}(h:0< l.length):lt tm l=tm (l[l.length-1]'o_):=by
 have:=lt_take tm (l:=l) (k:=l.length- 1) o_;rw[show l.length-1+ 1=l.length by omega,List.take_length]at this;exact this
structure Gh(E:Type) where
 el:Int→ Option (Nat×List E)
 L:Int→ List E
 vt:Int→ Nat→Option (Nat×List E)
 ack:Int→ Nat→Nat
 cert:Int→ Nat→Nat→ Prop
variable (g:Gh E)
def Good(l:List E):Prop:= ∀i (h:i< l.length),(g.el (tm l[i])).isSome=true∧ l.take (i+1)=(g.L (tm l[i])).take (i+1)
def UpTo(l m:List E):Prop:= lt tm l<lt tm m∨lt tm l=lt tm m∧l.length≤ m.length
def Held(t:Int)(v:Nat)(l:List E):Prop:= ∀s i,s<t→ i≤g.ack s v→(∀s' k m,s<s'→ s'<t→ g.el s'=some (k,m)→m.take i=(g.L s).take i)→l.take i=(g.L s).take i
def Heldc(t:Int)(v:Nat)(l:List E):Prop:= ∀s i n,s<t→ g.cert s i n→i≤ g.ack s v→(∀s' k m,s<s'→ s'<t→ g.el s'=some (k,m)→m.take i=(g.L s).take i)→l.take i=(g.L s).take i
structure Win(t:Int)(k:Nat)(m:List E):Prop where
 good:Good tm g m
 low:lt tm m<t
 votes:∃q,Maj (lat cf c0 m) q∧∀v,q v=true→ ∃l,g.vt t v=some (k,l)∧Good tm g l∧UpTo tm l m∧Heldc g t v l
structure WinA(t:Int)(k:Nat)(m:List E):Prop where
 good:Good tm g m
 low:lt tm m<t
 votes:∃q,Maj (lat cf c0 m) q∧∀v,q v=true→ ∃l,g.vt t v=some (k,l)∧Good tm g l∧UpTo tm l m∧Held g t v l
structure Hist:Prop where
 pos:∀t k m,g.el t=some (k,m)→1≤ t
 wina:∀t k m,g.el t=some (k,m)→WinA tm cf c0 g t k m
 own:∀t k m,g.el t=some (k,m)→∃r,g.L t=m++ r∧∀x∈ r,tm x=t
 good:∀t,Good tm g (g.L t)
 sort:∀t,(g.L t).Pairwise (fun a b=>tm a≤tm b)
 ack:∀s v,g.ack s v≤(g.L s).length
 cert:∀s i m,g.cert s i m→(g.el s).isSome=true∧ 1≤i∧ i≤m∧ m≤(g.L s).length∧(∀h: i-1< (g.L s).length,tm (g.L s)[i-1]=s)∧∃q,Maj (lat cf c0 ((g.L s).take m)) q∧∀v,q v=true→ i≤g.ack s v
 first:∀s b (h:b< (g.L s).length),tm (g.L s)[b]=s→ (cf (g.L s)[b]).isSome=true→ ∃i m,g.cert s i m∧m≤ b
 two:∀s a b (h:b< (g.L s).length) (hab:a< b),tm (g.L s)[b]=s→ tm ((g.L s)[a]'o_)=s→ (cf (g.L s)[b]).isSome=true→ (cf ((g.L s)[a]'o_)).isSome=true→ ∃i m,g.cert s i m∧m≤ b∧a+ 1≤i
 close:∀s b (h:b< (g.L s).length) c,cf (g.L s)[b]=some c→Close (lat cf c0 ((g.L s).take b)) c
variable {tm cf c0 g}
theorem WinA.c{t:Int}{k:Nat}{m:List E}(w:WinA tm cf c0 g t k m):Win tm cf c0 g t k m:=⟨w.good,w.low,by
 obtain⟨q,h1,h2⟩:=w.votes;refine⟨q,h1,fun v hv=> ?_⟩;obtain⟨l,h3,h4,h5,h6⟩:=h2 v hv
 exact⟨l,h3,h4,h5,fun s i _ hs _ hi hk=>h6 s i hs hi hk⟩⟩
theorem Hist.win(H:Hist tm cf c0 g)(t:Int)(k:Nat)(m:List E)(h:g.el t=some (k,m)):Win tm cf c0 g t k m:=(H.wina t k m h).c
theorem Good.take{l:List E}(h:Good tm g l)(n:Nat):Good tm g (l.take n):=fun i hi=>by
 have hi':=hi;rw[List.length_take]at hi';have h1:=h i o_;have e:(l.take n)[i]=l[i]:=by rw[List.getElem_take]
 rw[e,List.take_take,Nat.min_eq_left o_];exact h1
theorem Good.last{l:List E}(h:Good tm g l)(h0:0< l.length):(g.el (lt tm l)).isSome=true∧ l=(g.L (lt tm l)).take l.length:=by
 have h1:=h (l.length-1) o_;rw[←lt_get tm h0,show l.length-1+ 1=l.length by omega,List.take_length]at h1;exact h1
theorem Good.le{l:List E}(h:Good tm g l)(h0:0< l.length):l.length≤ (g.L (lt tm l)).length:=by
 have:=congrArg List.length (h.last h0).2;rw[List.length_take]at this;omega
theorem Hist.sorted(H:Hist tm cf c0 g){l:List E}(h:Good tm g l):l.Pairwise (fun a b=>tm a≤tm b):=by
 by_cases h0:0< l.length
 ·rw[(h.last h0).2];exact(H.sort _).sublist (List.take_sublist _ _)
 ·have e:l.length= 0:=o_;rw[List.length_eq_zero_iff.1 e];exact List.Pairwise.nil
theorem Hist.le_lt(H:Hist tm cf c0 g){l:List E}(h:Good tm g l){i:Nat}(hi:i< l.length):tm l[i]≤lt tm l:=by
 rw[lt_get tm o_];rcases Nat.lt_or_ge i (l.length-1)with h1|h1
 ·exact List.pairwise_iff_getElem.1 (H.sorted h) _ _ _ _ h1
 ·have:i= l.length-1:= o_;subst this;exact Int.le_refl _
theorem Hist.lt_nonneg(H:Hist tm cf c0 g){l:List E}(h:Good tm g l):0≤ lt tm l:=by
 by_cases h0:0< l.length
 ·have h1:=(h.last h0).1;obtain⟨⟨k,m⟩,h2⟩:=Option.isSome_iff_exists.1 h1;have:=H.pos _ _ _ h2;omega
 ·have e:l.length= 0:=o_;rw[List.length_eq_zero_iff.1 e];exact Int.le_refl _
theorem Hist.nil_of(H:Hist tm cf c0 g){l:List E}(h:Good tm g l)(e:lt tm l≤0):l= []:=by
 by_cases h0:0< l.length
 ·obtain⟨⟨k,m⟩,h2⟩:=Option.isSome_iff_exists.1 (h.last h0).1;have:=H.pos _ _ _ h2;omega
 ·exact List.length_eq_zero_iff.1 o_
theorem Hist.beyond(H:Hist tm cf c0 g){t:Int}{k:Nat}{m l:List E}(he:g.el t=some (k,m))(h:Good tm g l)(e:lt tm l=t):m.length< l.length∧∃r,l=m++ r∧∀x∈ r,tm x=t:= by
 have hp:=H.pos _ _ _ he;have h0:0< l.length:=by
  refine Nat.pos_of_ne_zero fun h1=> ?_
  rw[List.length_eq_zero_iff.1 h1,lt_nil]at e;omega
 obtain⟨r,hr,ht⟩:=H.own _ _ _ he;have h1:=(h.last h0).2;have h2:=h.le h0;rw[e]at h1 h2;have hl:m.length< l.length:=by
  refine Nat.lt_of_not_le fun hle=> ?_
  have hw:=H.win _ _ _ he;rw[hr,List.take_append_of_le_length hle]at h1;have h3:=lt_get tm h0;have h5:l[l.length-1]? =(m.take l.length)[l.length-1]?:=by rw[←h1]
  rw[List.getElem?_take_of_lt o_]at h5;rw[List.getElem?_eq_getElem o_,List.getElem?_eq_getElem o_]at h5;have e4:=Option.some.inj h5;have h6:=H.le_lt hw.good (i:=l.length- 1) o_;rw[e4]at h3;have:=hw.low;omega
 refine⟨hl,r.take (l.length-m.length),?_,fun x hx=>ht x (List.mem_of_mem_take hx)⟩;rw[hr,List.take_append]at h1;rw[List.take_of_length_le o_]at h1;exact h1
theorem take_split{α:Type}(l:List α){b m:Nat}(h:b≤ m):l.take m=l.take b++(l.take m).drop b:=by
 have h1:=(List.take_append_drop b (l.take m)).symm;rw[List.take_take,Nat.min_eq_left h]at h1;exact h1
theorem take_cons{α:Type}(l:List α){b m:Nat}(h:b< m)(hb:b< l.length):l.take m=(l.take b++[l[b]])++(l.take m).drop (b+1):=by
 rw[←List.take_succ_eq_append_getElem hb];exact take_split l h
def Meet(c d:Nat→ Bool):Prop:= ∀p q,Maj c p→Maj d q→∃j,p j=true∧ q j=true
theorem Meet.symm{c d:Nat→ Bool}(h:Meet c d):Meet d c:=fun p q hp hq=>by
 obtain⟨j,h1,h2⟩:=h q p hq hp;exact⟨j,h2,h1⟩
def Has(g:Gh E)(l:List E)(s:Int):Prop:= ∀i m,g.cert s i m→i≤ l.length∧l.take i=(g.L s).take i
theorem Hist.near(H:Hist tm cf c0 g){s:Int}{n m:Nat}(hn:n≤ m)(hm:m≤ (g.L s).length)(hall:∀i (h:i< (g.L s).length),n≤i→ i<m→ tm (g.L s)[i]=s)(hno:∀i m',g.cert s i m'→m'< m→i≤ n):
 Close (lat cf c0 ((g.L s).take n)) (lat cf c0 ((g.L s).take m)):=by
 by_cases hx:∃b,n≤b∧ b<m∧ ∃h: b<(g.L s).length,(cf (g.L s)[b]).isSome=true
 ·obtain⟨b,h1,h2,h3,h4⟩:=hx;have huniq:∀a (h:a< (g.L s).length),n≤a→ a<m→ (cf (g.L s)[a]).isSome=true→ a=b:= fun a h h5 h6 h7=>by
   rcases Nat.lt_trichotomy a b with h8|h8| h8
   ·obtain⟨i,m',h9,h10,h11⟩:=H.two s a b h3 h8 (hall b h3 h1 h2) (hall a h h5 h6) h4 h7;have:=hno i m' h9 o_;omega
   ·exact h8
   ·obtain⟨i,m',h9,h10,h11⟩:=H.two s b a h h8 (hall a h h5 h6) (hall b h3 h1 h2) h7 h4;have:=hno i m' h9 o_;omega
  obtain⟨c,hc⟩:=Option.isSome_iff_exists.1 h4;have e2:lat cf c0 ((g.L s).take m)=c:= by
   rw[take_cons (g.L s) h2 h3];rw[lat_append,lat_snoc_some _ _ _ _ _ hc];intro x hx;obtain⟨j,hj,rfl⟩:=List.getElem_of_mem hx;rw[List.length_drop,List.length_take]at hj;rw[List.getElem_drop,List.getElem_take];rcases h:cf ((g.L s)[b+1+ j]'o_)with _|d
   ·rfl
   ·have:=huniq (b+1+ j) o_ o_ o_ (by rw[h];rfl);omega
  have e3:lat cf c0 ((g.L s).take b)=lat cf c0 ((g.L s).take n):=by
   rw[take_split (g.L s) h1,lat_append];intro x hx;obtain⟨j,hj,rfl⟩:=List.getElem_of_mem hx;rw[List.length_drop,List.length_take]at hj;rw[List.getElem_drop,List.getElem_take];rcases h:cf ((g.L s)[n+j]'o_)with _|d
   ·rfl
   ·have:=huniq (n+j) o_ o_ o_ (by rw[h];rfl);omega
  rw[e2,←e3];exact H.close s b h3 c hc
 ·rw[take_split (g.L s) hn,lat_append]
  ·exact Close.refl _
  ·intro x hx';obtain⟨j,hj,rfl⟩:=List.getElem_of_mem hx';rw[List.length_drop,List.length_take]at hj;rw[List.getElem_drop,List.getElem_take];rcases h:cf ((g.L s)[n+j]'o_)with _|d
   ·rfl
   ·exact absurd ⟨n+j,by omega,by omega,by omega,by rw[h];rfl⟩ hx
theorem Close.meets{c d:Nat→ Bool}(h:Close c d):Meet c d:=fun _ _ hc hd=>h.meet hc hd
theorem get_of_take{α:Type}{l m:List α}{i j:Nat}(h:l.take i=m.take i)(hj:j< i)(h1:j< l.length)(h2:j< m.length):l[j]=m[j]:=by
 have h3:(l.take i)[j]? =(m.take i)[j]?:=by rw[h]
 rw[List.getElem?_take_of_lt hj,List.getElem?_take_of_lt hj,List.getElem?_eq_getElem h1,List.getElem?_eq_getElem h2]at h3;exact Option.some.inj h3
theorem Hist.reach(H:Hist tm cf c0 g){s:Int}{i n:Nat}{l:List E}(hl:Good tm g l)(hc:g.cert s i n)(h1:i≤ l.length)(h2:l.take i=(g.L s).take i):s≤ lt tm l:=by
 obtain⟨_,h3,h4,h5,h6,_⟩:=H.cert _ _ _ hc;have e:=get_of_take h2 (j:=i- 1) o_ o_ o_;have:=H.le_lt hl (i:=i- 1) o_;rw[e,h6 o_]at this;exact this
theorem Hist.meet(H:Hist tm cf c0 g):∀(n:Nat) (a b:Int) (ka kb:Nat) (A B:List E),Win tm cf c0 g a ka A→Win tm cf c0 g b kb B→lt tm A<b→ lt tm B<a→ (lt tm A).toNat+(lt tm B).toNat≤n→
 (∀t k m,Win tm cf c0 g t k m→t< max a b→∀s,s<t→ Has g m s)→(∀s,s≤max (lt tm A) (lt tm B)→s< a→Has g A s)→(∀s,s≤max (lt tm A) (lt tm B)→s< b→Has g B s)→
 Meet (lat cf c0 A) (lat cf c0 B):=by
 intro n
 induction n with
 |zero=>
  intro a b ka kb A B wa wb _ _ hn _ _ _;have h1:=H.lt_nonneg wa.good;have h2:=H.lt_nonneg wb.good;rw[H.nil_of wa.good o_,H.nil_of wb.good o_];exact(Close.refl _).meets
 |succ n ih=>
  have step:∀(a b:Int) (ka kb:Nat) (A B:List E),Win tm cf c0 g a ka A→Win tm cf c0 g b kb B→lt tm A<b→ lt tm B<a→ (lt tm A).toNat+(lt tm B).toNat≤n+ 1→
   (∀t k m,Win tm cf c0 g t k m→t< max a b→∀s,s<t→ Has g m s)→(∀s,s≤max (lt tm A) (lt tm B)→s< b→Has g B s)→lt tm B<lt tm A→Meet (lat cf c0 A) (lat cf c0 B):=by
   intro a b ka kb A B wa wb hab hba hn hc hB hlt;have h2:=H.lt_nonneg wb.good;have h0:0< A.length:=by
    refine Nat.pos_of_ne_zero fun h1=> ?_
    rw[List.length_eq_zero_iff.1 h1,lt_nil]at hlt;omega
   obtain⟨⟨k,m⟩,he⟩:=Option.isSome_iff_exists.1 (wa.good.last h0).1;have wm:=H.win _ _ _ he;obtain⟨h3,r,hr,ht⟩:=H.beyond he wa.good rfl;have hlow:=wm.low;have hnn:=H.lt_nonneg wm.good;have hno:∀x∈ r,cf x=none:= fun x hx=>by
    rcases hcx:cf x with _|c
    ·rfl
    ·exfalso
     obtain⟨j,hj,rfl⟩:=List.getElem_of_mem hx;have hl:=(wa.good.last h0).2;have hle:=wa.good.le h0;have hAl:A.length= m.length+r.length:= by rw[hr];simp
     have e:(g.L (lt tm A))[m.length+j]'o_=r[j]:=by
      have e1:A[m.length+j]'o_=r[j]:=by
       have:A[m.length+j]? =r[j]?:=by
        conv=>lhs;rw[hr]
        rw[List.getElem?_append_right o_];congr 1;omega
       rw[List.getElem?_eq_getElem o_,List.getElem?_eq_getElem hj]at this;exact Option.some.inj this
      rw[←e1];exact(get_of_take (i:=A.length) (by rw[List.take_length];exact hl) o_ o_ o_).symm
     obtain⟨i,m',h5,h6⟩:=H.first (lt tm A) (m.length+j) o_ (by rw[e];exact ht _ hx) (by rw[e,hcx];rfl)
     obtain⟨h7,h8⟩:=hB (lt tm A) o_ hab i m' h5;have:=H.reach wb.good h5 h7 h8;omega
   have e:lat cf c0 A=lat cf c0 m:=by rw[hr,lat_append _ _ _ _ hno]
   rw[e];have hx1:lt tm m<lt tm A:=hlow;refine ih (lt tm A) b k kb m B wm wb o_ hlt o_ (fun t k' m' w h1 s hs=>hc t k' m' w o_ s hs) (fun s h1 h4=>hc (lt tm A) k m wm o_ s h4) (fun s h1 h4=>hB s o_ h4)
  intro a b ka kb A B wa wb hab hba hn hc hA hB;rcases Int.lt_trichotomy (lt tm A) (lt tm B)with h|h| h
  ·exact(step b a kb ka B A wb wa hba hab o_ (fun t k m w h1 s hs=>hc t k m w o_ s hs) (fun s h1 h2=>hA s o_ h2) h).symm
  ·
   by_cases hp:lt tm A≤0
   ·rw[H.nil_of wa.good hp,H.nil_of wb.good o_];exact(Close.refl _).meets
   ·have hA0:0< A.length:=Nat.pos_of_ne_zero fun h1=>by rw[List.length_eq_zero_iff.1 h1,lt_nil]at hp;omega
    have hB0:0< B.length:=Nat.pos_of_ne_zero fun h1=>by rw[List.length_eq_zero_iff.1 h1,lt_nil]at h;omega
    have two:∀(A B:List E),Good tm g A→Good tm g B→0< A.length→0< B.length→lt tm A=lt tm B→A.length≤ B.length→(∀i m',g.cert (lt tm A) i m'→i≤ A.length)→Meet (lat cf c0 A) (lat cf c0 B):=by
     intro A B gA gB hA0 hB0 h hle hcA;have hl1:=(gA.last hA0).2;have hl2:=(gB.last hB0).2;have hle2:=gB.le hB0;rw[←h]at hl2 hle2
     have hcl:=H.near (s:=lt tm A) (n:=A.length) (m:=B.length) hle hle2 (fun i hi h1 h2=>by
      have e1:B[i]'h2=(g.L (lt tm A))[i]:=get_of_take (i:=B.length) (by rw[List.take_length];exact hl2) h2 h2 hi;have e2:=H.le_lt gB (i:=i) h2;rw[e1,←h]at e2;have e3:A[A.length-1]'o_=(g.L (lt tm A))[A.length-1]'o_:=get_of_take (i:=A.length) (by rw[List.take_length];exact hl1) o_ o_ o_;have e4:=lt_get tm hA0;have e5:=List.pairwise_iff_getElem.1 (H.sort (lt tm A)) (A.length-1) i o_ hi o_;rw[←e3,←e4]at e5
      omega) (fun i m' hc' _=>hcA i m' hc')
     rw[←hl1,←hl2]at hcl;exact hcl.meets
    rcases Nat.le_total A.length B.length with h1|h1
    ·exact two A B wa.good wb.good hA0 hB0 h h1 (fun i m' hc'=>(hA (lt tm A) o_ o_ i m' hc').1)
    ·exact(two B A wb.good wa.good hB0 hA0 h.symm h1 (fun i m' hc'=>(hB (lt tm B) o_ o_ i m' hc').1)).symm
  ·exact step a b ka kb A B wa wb hab hba hn hc hB h
theorem tq13 {P:Prop}(h:P:=by
 obtain⟨⟨k',m'⟩,he⟩:=Option.isSome_iff_exists.1 (H.cert _ _ _ hc).1;have:=H.pos _ _ _ he
 omega):P:=h
theorem Hist.whole(H:Hist tm cf c0 g):∀(n:Nat) (t:Int) (k:Nat) (m:List E),Win tm cf c0 g t k m→t.toNat≤ n→∀s,s<t→ Has g m s:=by
 intro n
 induction n with
 |zero=>
  intro t k m w hn s hs i l hc;have h1:=(H.cert _ _ _ hc).1;obtain⟨⟨k',m'⟩,he⟩:=Option.isSome_iff_exists.1 h1;have:=H.pos _ _ _ he;omega
 |succ n ih=>
  intro t k m w hn;have hlow:=w.low;have ih':∀t' k' m',Win tm cf c0 g t' k' m'→t'< t→∀s,s<t'→ Has g m' s:=fun t' k' m' w' h1 s hs=>by
   by_cases hp:t'≤ 0
   ·intro i l hc;exact tq13
   ·exact ih t' k' m' w' o_ s hs
  have inner:∀(N:Nat) (s:Int),s.toNat≤N→ s<t→ Has g m s:=by
   intro N
   induction N with
   |zero=>
    intro s hN _ i l hc;exact tq13
   |succ N ihs=>
    intro s hN hs;have ihs':∀s',s'<s→ Has g m s':=fun s' h1=>by
     by_cases hp:s≤ 0
     ·intro i l hc;exact tq13
     ·exact ihs s' o_ o_
    have main:∀(M:Nat) (i l:Nat),l≤M→ g.cert s i l→i≤ m.length∧m.take i=(g.L s).take i:=by
     intro M
     induction M with
     |zero=>
      intro i l hl hc;have:=(H.cert _ _ _ hc).2;omega
     |succ M ihm=>
      intro i l hl hc;have ihm':∀i' l',g.cert s i' l'→l'< l→i'≤ m.length∧m.take i'=(g.L s).take i':=fun i' l' h1 h2=>ihm i' l' o_ h1
      obtain⟨hes,hi1,hil,hlL,hter,Q,hQ,hQa⟩:=H.cert _ _ _ hc;obtain⟨⟨ks,ms⟩,he⟩:=Option.isSome_iff_exists.1 hes;have hsp:=H.pos _ _ _ he;have ws:=H.win _ _ _ he;have fin:(lt tm m<s∨ (lt tm m=s∧ m.length<i))→Meet (lat cf c0 ((g.L s).take l)) (lat cf c0 m)→False:= by
       intro hu hmeet;obtain⟨Q',hQ',hv⟩:=w.votes;obtain⟨v,hv1,hv2⟩:=hmeet _ _ hQ hQ';obtain⟨vl,_,hg,hup,hheld⟩:=hv v hv2;have hack:=hQa v hv1;have e:=hheld s i l hs hc hack (fun s' k' m' h1 h2 h3=>(ih' s' k' m' (H.win _ _ _ h3) h2 s h1 i l hc).2);have hal:=H.ack s v;have hlen:i≤ vl.length:=by
        have:=congrArg List.length e;rw[List.length_take,List.length_take]at this;omega
       have hr:=H.reach hg hc hlen e;rcases hup with h1|⟨h1,h2⟩
       ·omega
       ·omega
      rcases Int.lt_trichotomy (lt tm m) s with hu|hu| hu
      ·exfalso
       refine fin (.inl hu) ?_;obtain⟨r,hr,ht⟩:=H.own _ _ _ he;have hml:ms.length< i:=by
        refine Nat.lt_of_not_le fun h1=> ?_
        have h2:=hter o_;have h3:(g.L s)[i-1]'o_=ms[i-1]'o_:=by
         have:(g.L s)[i-1]? =ms[i-1]?:=by rw[hr,List.getElem?_append_left o_]
         rw[List.getElem?_eq_getElem o_,List.getElem?_eq_getElem o_]at this;exact Option.some.inj this
        have h4:=H.le_lt ws.good (i:=i- 1) o_;have:=ws.low;rw[h3]at h2;omega
       have hno:∀x∈ r.take (l-ms.length),cf x=none:= fun x hx=>by
        rcases hcx:cf x with _|c
        ·rfl
        ·exfalso
         obtain⟨j,hj,hjx⟩:=List.getElem_of_mem hx;rw[List.length_take]at hj;have hLl:(g.L s).length=ms.length+ r.length:=by rw[hr];simp
         have e1:(g.L s)[ms.length+j]'o_=x:= by
          have:(g.L s)[ms.length+j]? =r[j]?:=by rw[hr,List.getElem?_append_right o_];congr 1;omega
          rw[List.getElem?_eq_getElem o_,List.getElem?_eq_getElem o_]at this;rw[Option.some.inj this,←hjx,List.getElem_take]
         obtain⟨i',m',h5,h6⟩:=H.first s (ms.length+j) o_ (by rw[e1];exact ht _ (List.mem_of_mem_take hx)) (by rw[e1,hcx];rfl)
         obtain⟨h7,h8⟩:=ihm' i' m' h5 o_;have:=H.reach w.good h5 h7 h8;omega
       have e:lat cf c0 ((g.L s).take l)=lat cf c0 ms:=by
        rw[hr,List.take_append,List.take_of_length_le o_,lat_append _ _ _ _ hno]
       rw[e];have hx1:=ws.low;refine H.meet _ s t ks k ms m ws w o_ hu n_ (fun t' k' m' w' h1 s' hs'=>ih' t' k' m' w' o_ s' hs') (fun s' h1 h2=>ih' s ks ms ws hs s' h2) (fun s' h1 h2=>ihs' s' o_)
      ·by_cases hi:i≤ m.length
       ·refine⟨hi,?_⟩;have h0:0< m.length:=o_;have:=(w.good.last h0).2;rw[hu]at this;rw[this,List.take_take,Nat.min_eq_left hi]
       ·exfalso
        refine fin (.inr ⟨hu,by omega⟩) ?_;have h0:0< m.length:=Nat.pos_of_ne_zero fun h1=>by
         rw[List.length_eq_zero_iff.1 h1,lt_nil]at hu;omega
        have hl1:=(w.good.last h0).2;have hle:=w.good.le h0;rw[hu]at hl1 hle;obtain⟨r,hr,ht⟩:=H.own _ _ _ he
        have hcl:=H.near (s:=s) (n:=m.length) (m:=l) o_ hlL (fun j hj h1 h2=>by
         have e3:m[m.length-1]'o_=(g.L s)[m.length-1]'o_:=get_of_take (i:=m.length) (by rw[List.take_length];exact hl1) o_ o_ o_;have e4:=lt_get tm h0;have e5:=List.pairwise_iff_getElem.1 (H.sort s) (m.length-1) j o_ hj o_;rw[←e3,←e4,hu]at e5;have e6:tm (g.L s)[j]≤s:= by
          have hm:(g.L s)[j]∈ms++ r:=by rw[←hr];exact List.getElem_mem hj
          rcases List.mem_append.1 hm with h3|h3
          ·obtain⟨q,hq,hqx⟩:=List.getElem_of_mem h3;have h4:=H.le_lt ws.good hq;have:=ws.low;rw[hqx]at h4;omega
          ·rw[ht _ h3];exact Int.le_refl _
         omega) (fun i' m' h1 h2=>(ihm' i' m' h1 h2).1)
        rw[←hl1]at hcl;exact hcl.symm.meets
      ·have h0:0< m.length:=Nat.pos_of_ne_zero fun h1=>by
        rw[List.length_eq_zero_iff.1 h1,lt_nil]at hu;omega
       obtain⟨⟨ku,mu⟩,heu⟩:=Option.isSome_iff_exists.1 (w.good.last h0).1;obtain⟨h3,r,hr,_⟩:=H.beyond heu w.good rfl;obtain⟨h5,h6⟩:=ih' _ ku mu (H.win _ _ _ heu) hlow s hu i l hc;refine⟨by omega,?_⟩;rw[hr,List.take_append_of_le_length h5,h6]
    intro i l hc;exact main l i l n_ hc
  intro s hs;exact inner s.toNat s n_ hs
theorem Hist.has(H:Hist tm cf c0 g){t:Int}{k:Nat}{m:List E}(w:Win tm cf c0 g t k m){s:Int}(hs:s< t):Has g m s:=H.whole t.toNat t k m w n_ s hs
theorem Hist.one(H:Hist tm cf c0 g){t:Int}{k k':Nat}{m m':List E}(w:Win tm cf c0 g t k m)(he:g.el t=some (k',m')):k= k':=by
 have w':=H.win _ _ _ he;have hm:=H.meet _ t t k k' m m' w w' w.low w'.low n_ (fun t' k m w h1 s hs=>H.has w hs) (fun s _ h=>H.has w h) (fun s _ h=>H.has w' h);obtain⟨Q,hQ,hv⟩:=w.votes;obtain⟨Q',hQ',hv'⟩:=w'.votes;obtain⟨v,h1,h2⟩:=hm _ _ hQ hQ';obtain⟨l,e,_⟩:=hv v h1;obtain⟨l',e',_⟩:=hv' v h2;rw[e]at e';exact congrArg Prod.fst (Option.some.inj e')
end
def upd{α:Type}(f:Nat→ α)(k:Nat)(x:α):Nat→ α:=fun j=>if j=k then x else f j
def updT{α:Type}(f:Int→ α)(k:Int)(x:α):Int→ α:=fun j=>if j=k then x else f j
theorem upd_same{α:Type}(f:Nat→ α)(k:Nat)(x:α):upd f k x k=x:= if_pos rfl
theorem upd_ne{α:Type}(f:Nat→ α){k j:Nat}(x:α)(h:j≠ k):upd f k x j=f j:=if_neg h
theorem updT_same{α:Type}(f:Int→ α)(k:Int)(x:α):updT f k x k=x:= if_pos rfl
theorem updT_ne{α:Type}(f:Int→ α){k j:Int}(x:α)(h:j≠ k):updT f k x j=f j:=if_neg h
section
variable {E:Type} (tm:E→ Int) (cf:E→ Option (Nat→Bool)) (c0:Nat→ Bool)
structure Nd(E:Type) where
 term:Int
 vote:Nat
 log:List E
 role:Nat
 com:Nat
 yes:Nat→ Bool
 mat:Nat→ Nat
structure Sys(E:Type) where
 ns:Nat→ Nd E
 g:Gh E
 ck:Int→ Nat→Option (List E)
 acc:Nat→ Int
def ComT(g:Gh E)(t:Int)(l:List E):Prop:= l=[]∨∃s i m,s≤t∧ g.cert s i m∧l.length≤ i∧l= (g.L s).take l.length
def HeldL(g:Gh E)(t:Int)(v:Nat)(l:List E):Prop:= ∀s i,s<t→ i≤g.ack s v→(∀s' k m,s<s'→ s'≤t→ g.el s'=some (k,m)→m.take i=(g.L s).take i)→l.take i=(g.L s).take i
structure Inv(x:Sys E):Prop where
 hist:Hist tm cf c0 x.g
 none0:∀t,x.g.el t=none→ x.g.L t=[]
 log:∀v,Good tm x.g (x.ns v).log
 term0:∀v,0≤(x.ns v).term
 low:∀v,lt tm (x.ns v).log≤(x.ns v).term
 elt:∀t k m,x.g.el t=some (k,m)→t≤ (x.ns k).term
 votes:∀t v c l,x.g.vt t v=some (c,l)→t≤ (x.ns v).term∧∃ml,x.ck t c=some ml∧Good tm x.g l∧UpTo tm l ml∧HeldL x.g t v l
 now:∀v,(x.ns v).vote=((x.g.vt (x.ns v).term v).map Prod.fst).getD 0
 vt0:∀t v c l,x.g.vt t v=some (c,l)→c≠ 0
 ckt:∀t c l,x.ck t c=some l→t≤ (x.ns c).term
 cand:∀v,(x.ns v).role=1→ x.ck (x.ns v).term v=some (x.ns v).log∧lt tm (x.ns v).log<(x.ns v).term∧1≤ (x.ns v).term∧(∀k m,x.g.el (x.ns v).term=some (k,m)→k≠ v)∧∀j,(x.ns v).yes j=true→ ∃l,x.g.vt (x.ns v).term j=some (v,l)
 lead:∀v,(x.ns v).role=2→ (∃m,x.g.el (x.ns v).term=some (v,m))∧(x.ns v).log=x.g.L (x.ns v).term∧x.g.ack (x.ns v).term v=(x.ns v).log.length∧(∀j,j≠v→ (x.ns v).mat j≤x.g.ack (x.ns v).term j)∧x.acc v=(x.ns v).term
 acc:∀v,x.acc v≤(x.ns v).term∧(x.acc v≠0→ (x.g.el (x.acc v)).isSome=true)∧0≤ x.acc v
 ack:∀s v,x.acc v<s→ x.g.ack s v=0
 held:∀s v i,i≤x.g.ack s v→(∀s' k m,s<s'→ s'≤x.acc v→x.g.el s'=some (k,m)→m.take i=(x.g.L s).take i)→(x.ns v).log.take i=(x.g.L s).take i
 com:∀v,(x.ns v).com≤(x.ns v).log.length∧ComT x.g (x.ns v).term ((x.ns v).log.take (x.ns v).com)
structure Ext(x y:Sys E):Prop where
 el:∀t k,x.g.el t=some k→y.g.el t=some k
 L:∀t,∃r,y.g.L t=x.g.L t++r
 vt:∀t v k,x.g.vt t v=some k→y.g.vt t v=some k
 ack:∀t v,x.g.ack t v≤y.g.ack t v
 old:∀t v k,x.g.vt t v=some k→∀u,u<t→ y.g.ack u v=x.g.ack u v
 cert:∀a b c,x.g.cert a b c→y.g.cert a b c
 ck:∀t c k,x.ck t c=some k→y.ck t c=some k
variable {tm cf c0}
theorem Ext.refl(x:Sys E):Ext x x:=⟨fun _ _ h=>h,fun _=>⟨[],(List.append_nil _).symm⟩,fun _ _ _ h=>h,fun _ _=>Nat.le_refl _,fun _ _ _ _ _ _=>rfl,fun _ _ _ h=>h,fun _ _ _ h=>h⟩
theorem Ext.trans{x y z:Sys E}(h:Ext x y)(k:Ext y z):Ext x z:=⟨fun t q e=>k.el t q (h.el t q e),fun t=>by
 obtain⟨r,hr⟩:=h.L t;obtain⟨r',hr'⟩:=k.L t;exact⟨r++r',by rw[hr',hr,List.append_assoc]⟩,fun t v q e=>k.vt t v q (h.vt t v q e),fun t v=>Nat.le_trans (h.ack t v) (k.ack t v),
 fun t v q e u hu=>by rw[k.old t v q (h.vt t v q e) u hu,h.old t v q e u hu],fun a b c e=>k.cert a b c (h.cert a b c e),fun t c q e=>k.ck t c q (h.ck t c q e)⟩
theorem Ext.take{x y:Sys E}(h:Ext x y){t:Int}{n:Nat}(hn:n≤ (x.g.L t).length):(y.g.L t).take n=(x.g.L t).take n:=by
 obtain⟨r,hr⟩:=h.L t;rw[hr,List.take_append_of_le_length hn]
theorem Ext.len{x y:Sys E}(h:Ext x y)(t:Int):(x.g.L t).length≤(y.g.L t).length:=by
 obtain⟨r,hr⟩:=h.L t;rw[hr,List.length_append];omega
theorem take_len{α:Type}{l m:List α}{i:Nat}(h:l.take i=m.take i)(hi:i≤ l.length):i≤ m.length:=by
 have:=congrArg List.length h;rw[List.length_take,List.length_take]at this;omega
theorem Good.ext{x y:Sys E}(h:Ext x y){l:List E}(hg:Good tm x.g l):Good tm y.g l:=fun i hi=>by
 obtain⟨h1,h2⟩:=hg i hi;obtain⟨k,hk⟩:=Option.isSome_iff_exists.1 h1;refine⟨by rw[h.el _ _ hk];rfl,?_⟩;have h3:i+ 1≤(x.g.L (tm l[i])).length:=take_len (l:=l) h2 o_;rw[h2,h.take h3]
theorem ComT.ext{x y:Sys E}(h:Ext x y)(hc:∀s i m,x.g.cert s i m→m≤ (x.g.L s).length∧i≤ m){t:Int}{l:List E}(k:ComT x.g t l):ComT y.g t l:=by
 rcases k with k|⟨s,i,m,h1,h2,h3,h4⟩
 ·exact .inl k
 ·obtain⟨h5,h6⟩:=hc s i m h2;exact .inr ⟨s,i,m,h1,h.cert _ _ _ h2,h3,by rw[h.take o_];exact h4⟩
theorem ComT.mono{g:Gh E}{t u:Int}{l:List E}(h:ComT g t l)(ht:t≤ u):ComT g u l:=by
 rcases h with h|⟨s,i,m,h1,h2⟩
 ·exact .inl h
 ·exact .inr ⟨s,i,m,by omega,h2⟩
theorem ComT.take{g:Gh E}{t:Int}{l:List E}(h:ComT g t l)(n:Nat):ComT g t (l.take n):=by
 rcases h with h|⟨s,i,m,h1,h2,h3,h4⟩
 ·exact .inl (by rw[h];simp)
 ·refine .inr ⟨s,i,m,h1,h2,by rw[List.length_take];omega,?_⟩;rw[List.length_take]
  conv=>lhs;rw[h4]
  rw[List.take_take]
theorem HeldL.ext{x y:Sys E}(h:Ext x y)(hack:∀s v,x.g.ack s v≤(x.g.L s).length){t:Int}{v:Nat}{q:Nat× List E}{l:List E}(hv:x.g.vt t v=some q)(k:HeldL x.g t v l):HeldL y.g t v l:=fun s i hs hi hall=>by
 rw[h.old t v _ hv s hs]at hi;have h1:i≤ (x.g.L s).length:=Nat.le_trans hi (hack s v);rw[h.take h1];refine k s i hs hi fun s' k' m h2 h3 h4=> ?_
 rw[hall s' k' m h2 h3 (h.el _ _ h4),h.take h1]
theorem Held.ext{x y:Sys E}(h:Ext x y)(hack:∀s v,x.g.ack s v≤(x.g.L s).length){t:Int}{v:Nat}{q:Nat× List E}{l:List E}(hv:x.g.vt t v=some q)(k:Held x.g t v l):Held y.g t v l:=fun s i hs hi hall=>by
 rw[h.old t v _ hv s hs]at hi;have h1:i≤ (x.g.L s).length:=Nat.le_trans hi (hack s v);rw[h.take h1];refine k s i hs hi fun s' k' m h2 h3 h4=> ?_
 rw[hall s' k' m h2 h3 (h.el _ _ h4),h.take h1]
theorem WinA.ext{x y:Sys E}(h:Ext x y)(hack:∀s v,x.g.ack s v≤(x.g.L s).length){t:Int}{k:Nat}{m:List E}(w:WinA tm cf c0 x.g t k m):WinA tm cf c0 y.g t k m:=⟨w.good.ext h,w.low,by
 obtain⟨q,h1,h2⟩:=w.votes;refine⟨q,h1,fun v hv=> ?_⟩;obtain⟨l,h3,h4,h5,h6⟩:=h2 v hv
 exact⟨l,h.vt _ _ _ h3,h4.ext h,h5,h6.ext h hack h3⟩⟩
theorem Hist.agree{g:Gh E}(H:Hist tm cf c0 g){s u:Int}{i j m n:Nat}(h1:g.cert s i m)(h2:g.cert u j n)(hsu:s≤ u):i≤ (g.L u).length∧(g.L u).take i=(g.L s).take i:=by
 rcases Int.lt_or_eq_of_le hsu with h|h
 ·obtain⟨⟨k,e⟩,he⟩:=Option.isSome_iff_exists.1 (H.cert _ _ _ h2).1;obtain⟨h3,h4⟩:=H.has (H.win _ _ _ he) h i m h1;obtain⟨r,hr,_⟩:=H.own _ _ _ he;rw[hr,List.length_append];exact⟨by omega,by rw[List.take_append_of_le_length h3,h4]⟩
 ·subst h;have:=(H.cert _ _ _ h1).2;exact⟨by omega,rfl⟩
theorem Hist.comm{g:Gh E}(H:Hist tm cf c0 g){t u:Int}{l m:List E}(h1:ComT g t l)(h2:ComT g u m)(n:Nat)(hl:n≤ l.length)(hm:n≤ m.length):l.take n=m.take n:=by
 rcases h1 with h1|⟨s,i,q,_,h3,h4,h5⟩
 ·rw[h1]at hl;rw[show n=0 by simpa using hl];rfl
 rcases h2 with h2|⟨s',i',q',_,h3',h4',h5'⟩
 ·rw[h2]at hm;rw[show n=0 by simpa using hm];rfl
 have e1:l.take n=(g.L s).take n:=by
  conv=>lhs;rw[h5]
  rw[List.take_take,Nat.min_eq_left hl]
 have e2:m.take n=(g.L s').take n:=by
  conv=>lhs;rw[h5']
  rw[List.take_take,Nat.min_eq_left hm]
 rw[e1,e2];rcases Int.le_total s s' with h|h
 ·have:=(H.agree h3 h3' h).2;have h6:=congrArg (List.take n) this;rw[List.take_take,List.take_take,Nat.min_eq_left o_]at h6;exact h6.symm
 ·have:=(H.agree h3' h3 h).2;have h6:=congrArg (List.take n) this;rw[List.take_take,List.take_take,Nat.min_eq_left o_]at h6;exact h6
theorem Hist.leads{g:Gh E}(H:Hist tm cf c0 g){t:Int}{k:Nat}{e l:List E}(he:g.el t=some (k,e))(h:ComT g t l):l.length≤ (g.L t).length∧(g.L t).take l.length=l:= by
 rcases h with h|⟨s,i,m,h1,h2,h3,h4⟩
 ·rw[h];simp
 rcases Int.lt_or_eq_of_le h1 with h5|h5
 ·obtain⟨h6,h7⟩:=H.has (H.win _ _ _ he) h5 i m h2;obtain⟨r,hr,_⟩:=H.own _ _ _ he;rw[hr,List.length_append,List.take_append_of_le_length o_];refine⟨by omega,?_⟩;have:=congrArg (List.take l.length) h7;rw[List.take_take,List.take_take,Nat.min_eq_left h3]at this;rw[this];exact h4.symm
 ·subst h5;have:=(H.cert _ _ _ h2).2;exact⟨by omega,h4.symm⟩
end
section
variable {E:Type} {tm:E→ Int} {cf:E→ Option (Nat→Bool)} {c0:Nat→ Bool} {x:Sys E}
theorem Inv.node(h:Inv tm cf c0 x)(v:Nat)(n:Nd E)(hlog:n.log= (x.ns v).log)(hterm:(x.ns v).term≤n.term)(hvote:n.vote= ((x.g.vt n.term v).map Prod.fst).getD 0)(hcand:n.role= 1→x.ck n.term v=some n.log∧lt tm n.log<n.term∧ 1≤n.term∧ (∀k m,x.g.el n.term=some (k,m)→k≠ v)∧∀j,n.yes j=true→ ∃l,x.g.vt n.term j=some (v,l))(hlead:n.role= 2→(∃m,x.g.el n.term=some (v,m))∧n.log= x.g.L n.term∧x.g.ack n.term v=n.log.length∧ (∀j,j≠v→ n.mat j≤x.g.ack n.term j)∧x.acc v=n.term)(hcom:n.com≤ n.log.length∧ComT x.g n.term (n.log.take n.com)):Inv tm cf c0 {x with ns:=upd x.ns v n}:=by
 have key:∀(P:Nat→ Nd E→Prop),(∀w,P w (x.ns w))→P v n→∀w,P w (upd x.ns v n w):=fun P h1 h2 w=>by
  by_cases e:w= v
  ·subst e;rw[upd_same];exact h2
  ·rw[upd_ne _ _ e];exact h1 w
 have ht:∀w,(x.ns w).term≤(upd x.ns v n w).term:=key (fun w y=>(x.ns w).term≤y.term) (fun _=>Int.le_refl _) hterm;have h0:=h.term0 v
 exact{
  hist:=h.hist
  none0:=h.none0
  log:=key (fun _ y=>Good tm x.g y.log) h.log (by rw[hlog];exact h.log v)
  term0:=key (fun _ y=>0≤ y.term) h.term0 o_
  low:=key (fun _ y=>lt tm y.log≤y.term) h.low (by have:=h.low v;rw[hlog];omega)
  elt:=fun t k m e=>Int.le_trans (h.elt t k m e) (ht k)
  votes:=fun t w c l e=>⟨Int.le_trans (h.votes t w c l e).1 (ht w),(h.votes t w c l e).2⟩
  now:=key (fun w y=>y.vote= ((x.g.vt y.term w).map Prod.fst).getD 0) h.now hvote
  vt0:=h.vt0
  ckt:=fun t c l e=>Int.le_trans (h.ckt t c l e) (ht c)
  cand:=key (fun w y=>y.role= 1→x.ck y.term w=some y.log∧lt tm y.log<y.term∧ 1≤y.term∧ (∀k m,x.g.el y.term=some (k,m)→k≠ w)∧∀j,y.yes j=true→ ∃l,x.g.vt y.term j=some (w,l)) h.cand hcand
  lead:=key (fun w y=>y.role= 2→(∃m,x.g.el y.term=some (w,m))∧y.log= x.g.L y.term∧x.g.ack y.term w=y.log.length∧ (∀j,j≠w→ y.mat j≤x.g.ack y.term j)∧x.acc w=y.term) h.lead hlead
  acc:=key (fun w y=>x.acc w≤y.term∧ (x.acc w≠0→ (x.g.el (x.acc w)).isSome=true)∧0≤ x.acc w) h.acc ⟨by have:=(h.acc v).1;omega,(h.acc v).2⟩
  ack:=h.ack
  held:=key (fun w y=>∀s i,i≤x.g.ack s w→(∀s' k m,s<s'→ s'≤x.acc w→x.g.el s'=some (k,m)→m.take i=(x.g.L s).take i)→y.log.take i=(x.g.L s).take i) (fun w s i=>h.held s w i) (fun s i=>by rw[hlog];exact h.held s v i)|>fun k s w i=>k w s i
  com:=key (fun _ y=>y.com≤ y.log.length∧ComT x.g y.term (y.log.take y.com)) h.com hcom}
def rise(x:Sys E)(v:Nat)(t:Int):Sys E:={x with ns:=upd x.ns v {x.ns v with term:=t,vote:=0,role:=0}}
theorem Inv.vt_none(h:Inv tm cf c0 x){v:Nat}{t:Int}(ht:(x.ns v).term<t):x.g.vt t v=none:= by
 rcases e:x.g.vt t v with _|⟨c,l⟩
 ·rfl
 ·have:=(h.votes t v c l e).1;omega
theorem Inv.ck_none(h:Inv tm cf c0 x){v:Nat}{t:Int}(ht:(x.ns v).term<t):x.ck t v=none:= by
 rcases e:x.ck t v with _|l
 ·rfl
 ·have:=h.ckt t v l e;omega
theorem Inv.rise(h:Inv tm cf c0 x){v:Nat}{t:Int}(ht:(x.ns v).term<t):Inv tm cf c0 (rise x v t):=
 h.node v _ rfl (Int.le_of_lt ht) (by show 0=_;rw[h.vt_none ht];rfl) (fun e=>by cases e) (fun e=>by cases e) ⟨(h.com v).1,(h.com v).2.mono (Int.le_of_lt ht)⟩
theorem Ext.node(x:Sys E)(f:Nat→ Nd E):Ext x {x with ns:=f}:=⟨fun _ _ e=>e,fun _=>⟨[],(List.append_nil _).symm⟩,fun _ _ _ e=>e,fun _ _=>Nat.le_refl _,fun _ _ _ _ _ _=>rfl,fun _ _ _ e=>e,fun _ _ _ e=>e⟩
def setck(x:Sys E)(t:Int)(v:Nat)(l:List E):Sys E:={x with ck:=fun t' c=>if t'=t∧ c=v then some l else x.ck t' c}
theorem setck_old{t t':Int}{v c:Nat}{l l':List E}(hn:x.ck t v=none)(e:x.ck t' c=some l'):(setck x t v l).ck t' c=some l':=by
 show(if t'=t∧ c=v then some l else x.ck t' c)=some l'
 by_cases h:t'= t∧c= v
 ·rw[h.1,h.2,hn]at e;cases e
 ·rw[if_neg h];exact e
theorem Inv.setck(h:Inv tm cf c0 x){t:Int}{v:Nat}{l:List E}(hn:x.ck t v=none)(ht:t≤ (x.ns v).term):Inv tm cf c0 (setck x t v l)∧Ext x (setck x t v l):=by
 refine⟨?_,⟨fun _ _ e=>e,fun _=>⟨[],(List.append_nil _).symm⟩,fun _ _ _ e=>e,fun _ _=>Nat.le_refl _,fun _ _ _ _ _ _=>rfl,fun _ _ _ e=>e,fun _ _ _ e=>setck_old hn e⟩⟩
 exact{
  hist:=h.hist,none0:=h.none0,log:=h.log,term0:=h.term0,low:=h.low,elt:=h.elt
  votes:=fun t' w c l' e=>by
   obtain⟨h1,ml,h2,h3⟩:=h.votes t' w c l' e;exact⟨h1,ml,setck_old hn h2,h3⟩
  now:=h.now,vt0:=h.vt0
  ckt:=fun t' c l' e=>by
   by_cases h1:t'= t∧c= v
   ·rw[h1.1,h1.2];exact ht
   ·refine h.ckt t' c l' ?_;have e':(if t'=t∧ c=v then some l else x.ck t' c)=some l':=e;rw[if_neg h1]at e';exact e'
  cand:=fun w e=>by
   obtain⟨h1,h2⟩:=h.cand w e;exact⟨setck_old hn h1,h2⟩
  lead:=h.lead,acc:=h.acc,ack:=h.ack,held:=h.held,com:=h.com}
def grant(x:Sys E)(v c:Nat):Sys E:={x with ns:=upd x.ns v {x.ns v with vote:=c},g:={x.g with vt:=fun t w=>if t=(x.ns v).term∧w= v then some (c,(x.ns v).log)else x.g.vt t w}}
theorem grant_old{v c w:Nat}{t:Int}{q:Nat× List E}(hn:x.g.vt (x.ns v).term v=none)(e:x.g.vt t w=some q):(grant x v c).g.vt t w=some q:=by
 show(if t=(x.ns v).term∧w= v then some (c,(x.ns v).log)else x.g.vt t w)=some q
 by_cases h:t= (x.ns v).term∧w= v
 ·rw[h.1,h.2,hn]at e;cases e
 ·rw[if_neg h];exact e
theorem Ext.grant{v c:Nat}(hn:x.g.vt (x.ns v).term v=none):Ext x (grant x v c):=
 ⟨fun _ _ e=>e,fun _=>⟨[],(List.append_nil _).symm⟩,fun _ _ _ e=>grant_old hn e,fun _ _=>Nat.le_refl _,fun _ _ _ _ _ _=>rfl,fun _ _ _ e=>e,fun _ _ _ e=>e⟩
theorem Inv.grant(h:Inv tm cf c0 x){v c:Nat}{ml:List E}(hc:c≠ 0)(hn:x.g.vt (x.ns v).term v=none)(hck:x.ck (x.ns v).term c=some ml)(hup:UpTo tm (x.ns v).log ml):
 Inv tm cf c0 (grant x v c):=by
 have hx:=Ext.grant (c:=c) hn;have hterm:∀w,(upd x.ns v {x.ns v with vote:=c} w).term=(x.ns w).term:=fun w=>by
  by_cases e:w= v
  ·subst e;rw[upd_same]
  ·rw[upd_ne _ _ e]
 have key:∀(P:Nat→ Nd E→Prop),(∀w,P w (x.ns w))→(P v (x.ns v)→P v {x.ns v with vote:=c})→∀w,P w (upd x.ns v {x.ns v with vote:=c} w):=fun P h1 h2 w=>by
  by_cases e:w= v
  ·subst e;rw[upd_same];exact h2 (h1 _)
  ·rw[upd_ne _ _ e];exact h1 w
 exact{
  hist:={h.hist with wina:=fun t k m e=>(h.hist.wina t k m e).ext hx h.hist.ack}
  none0:=h.none0
  log:=key (fun _ y=>Good tm x.g y.log) h.log id
  term0:=key (fun _ y=>0≤ y.term) h.term0 id
  low:=key (fun _ y=>lt tm y.log≤y.term) h.low id
  elt:=fun t k m e=>by rw[show((Go.Proofs.YtoeofkcpclfnhaaGreat.Raf.grant x v c).ns k).term=_ from hterm k];exact h.elt t k m e
  votes:=fun t w d l e=>by
   rw[show((Go.Proofs.YtoeofkcpclfnhaaGreat.Raf.grant x v c).ns w).term=_ from hterm w];have e':(if t=(x.ns v).term∧w= v then some (c,(x.ns v).log)else x.g.vt t w)=some (d,l):=e;by_cases h1:t= (x.ns v).term∧w= v
   ·rw[if_pos h1]at e';cases e'
    obtain⟨rfl,rfl⟩:=h1;refine⟨Int.le_refl _,ml,hck,h.log w,hup,fun s i hs hi hall=>h.held s w i hi fun s' k m h2 h3 h4=>hall s' k m h2 (Int.le_trans h3 (h.acc w).1) h4⟩
   ·rw[if_neg h1]at e';obtain⟨h2,ml',h3,h4,h5,h6⟩:=h.votes t w d l e';exact⟨h2,ml',h3,h4,h5,h6⟩
  now:=fun w=>by
   by_cases e:w= v
   ·subst e;show(upd x.ns w {x.ns w with vote:=c} w).vote=(((if(upd x.ns w {x.ns w with vote:=c} w).term=(x.ns w).term∧w= w then some (c,(x.ns w).log)else x.g.vt (upd x.ns w {x.ns w with vote:=c} w).term w)).map Prod.fst).getD 0
    rw[upd_same];simp
   ·show(upd x.ns v {x.ns v with vote:=c} w).vote=(((if(upd x.ns v {x.ns v with vote:=c} w).term=(x.ns v).term∧w= v then some (c,(x.ns v).log)else x.g.vt (upd x.ns v {x.ns v with vote:=c} w).term w)).map Prod.fst).getD 0
    rw[upd_ne _ _ e,if_neg (fun h1=>e h1.2)];exact h.now w
  vt0:=fun t w d l e=>by
   have e':(if t=(x.ns v).term∧w= v then some (c,(x.ns v).log)else x.g.vt t w)=some (d,l):=e;by_cases h1:t= (x.ns v).term∧w= v
   ·rw[if_pos h1]at e';cases e';exact hc
   ·rw[if_neg h1]at e';exact h.vt0 t w d l e'
  ckt:=fun t d l e=>by rw[show((Go.Proofs.YtoeofkcpclfnhaaGreat.Raf.grant x v c).ns d).term=_ from hterm d];exact h.ckt t d l e
  cand:=fun w=>by
   refine key (fun w y=>y.role= 1→x.ck y.term w=some y.log∧lt tm y.log<y.term∧ 1≤y.term∧ (∀k m,x.g.el y.term=some (k,m)→k≠ w)∧∀j,y.yes j=true→ ∃l,(Go.Proofs.YtoeofkcpclfnhaaGreat.Raf.grant x v c).g.vt y.term j=some (w,l)) (fun w e=> ?_) id w;obtain⟨h1,h2,h3,h4,h5⟩:=h.cand w e;exact⟨h1,h2,h3,h4,fun j hj=>by obtain⟨l,hl⟩:=h5 j hj;exact⟨l,grant_old hn hl⟩⟩
  lead:=key (fun w y=>y.role= 2→(∃m,x.g.el y.term=some (w,m))∧y.log= x.g.L y.term∧x.g.ack y.term w=y.log.length∧ (∀j,j≠w→ y.mat j≤x.g.ack y.term j)∧x.acc w=y.term) h.lead id
  acc:=key (fun w y=>x.acc w≤y.term∧ (x.acc w≠0→ (x.g.el (x.acc w)).isSome=true)∧0≤ x.acc w) h.acc id
  ack:=h.ack
  held:=fun s w i=>key (fun w y=>∀s i,i≤x.g.ack s w→(∀s' k m,s<s'→ s'≤x.acc w→x.g.el s'=some (k,m)→m.take i=(x.g.L s).take i)→y.log.take i=(x.g.L s).take i) (fun w s i=>h.held s w i) id w s i
  com:=key (fun _ y=>y.com≤ y.log.length∧ComT x.g y.term (y.log.take y.com)) h.com id}
end
end Go.Proofs.YtoeofkcpclfnhaaGreat.Raf
