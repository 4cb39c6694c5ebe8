import Derived.Laws.Externs
import Derived.Lib.Overlaps
import Derived.Lib.AppendZerosOnto
import Derived.Maps.OwnOps
import Derived.Maps.OwnSet
import Derived.WideKeyPair
import Derived.DeepKeys4
import Derived.Test.YtfdmhpohfjbpfaaGreatSq04
set_option linter.unusedVariables false
set_option linter.unusedSimpArgs false
namespace Go.Proofs.YtfdmhpohfjbpfaaGreat
theorem tenOk_lt {a:Int} {x:Tenant} (h:tenOk a x=true):a< x.id:=by
 unfold tenOk ask1 at h
 simp only[Bool.and_eq_true,decide_eq_true_eq]at h
 exact h.1.1.1.1
theorem tensOk_all:∀ {ts:List Tenant} {a:Int},tensOk a ts=true→ ∀x∈ ts,a<x.id
 |y:: ts,a,h,x,hx=>by
  rw[tensOk,Bool.and_eq_true]at h
  have h1:=tenOk_lt h.1
  rcases List.mem_cons.1 hx with rfl|hx
  ·exact h1
  ·have:=tensOk_all h.2 x hx;omega
theorem filterL_cons_eq {id:Int} {y:Tenant} {ts:List Tenant} (h:y.id= id):filterL id (y::ts)=filterL id ts:=by
 unfold filterL;rw[List.filter_cons,if_neg (by simp[h])]
theorem filterL_cons_ne {id:Int} {y:Tenant} {ts:List Tenant} (h:y.id≠ id):filterL id (y::ts)=y:: filterL id ts:=by
 unfold filterL;rw[List.filter_cons,if_pos (by simp[h])]
theorem filterL_all {id:Int} {ts:List Tenant} (h:∀x∈ ts,x.id≠id):filterL id ts=ts:= by
 unfold filterL;rw[List.filter_eq_self];intro x hx;simpa using h x hx
theorem withoutL_cons_eq {id:Int} {y:Tenant} {ts:List Tenant} (h:y.id= id):withoutL id (y::ts)=ts:= by
 unfold withoutL;rw[List.findIdx?_cons,if_pos (by simpa using h)];rfl
theorem withoutL_cons_ne {id:Int} {y:Tenant} {ts:List Tenant} (h:y.id≠ id):withoutL id (y::ts)=y:: withoutL id ts:=by
 unfold withoutL;rw[List.findIdx?_cons,if_neg (by simpa using h)]
 cases hf:ts.findIdx? (fun x=>x.id== id)with
 |none=> rfl
 |some k=>rfl
theorem filter_without:∀ {ts:List Tenant} {a:Int} (id:Int),tensOk a ts=true→ filterL id ts=withoutL id ts
 |[],_,_,_=>rfl
 |y:: ts,a,id,h=>by
  rw[tensOk,Bool.and_eq_true]at h
  by_cases hy:y.id= id
  ·rw[filterL_cons_eq hy,withoutL_cons_eq hy]
   exact filterL_all fun x hx=>by have:=tensOk_all h.2 x hx;omega
  ·rw[filterL_cons_ne hy,withoutL_cons_ne hy,filter_without id h.2]
def insR (x:Tenant):List Tenant→List Tenant
 |[]=>[x]
 |y:: l=>if x.id<y.id then x::y:: l else y::insR x l
theorem insR_eq (x:Tenant):∀l: List Tenant,insR x l=l.take (putAt x l)++x:: l.drop (putAt x l)
 |[]=>rfl
 |y:: l=>by
  have ih:=insR_eq x l
  unfold insR
  by_cases h:x.id< y.id
  ·have:putAt x (y::l)=0:= by unfold putAt;rw[List.findIdx?_cons,if_pos (by simpa using h)]
   rw[if_pos h,this];rfl
  ·have:putAt x (y::l)=putAt x l+1:= by
    unfold putAt;rw[List.findIdx?_cons,if_neg (by simpa using h)]
    cases l.findIdx? (fun y=>decide (x.id<y.id))<;>rfl
   rw[if_neg h,this,ih];rfl
def hR (x:Tenant):Bool→ List Tenant→List Tenant
 |d,[]=>if d then[]else[x]
 |d,y::l=> if y.id=x.id then hR x d l else if x.id<y.id∧ d=false then x::y:: hR x true l else y::hR x d l
def okT (x:Tenant):Bool:= decide (x.id≤16)&&ask2 x&&ask3 x&&ask4 x
theorem tenOk_iff {a:Int} {x:Tenant}:tenOk a x=true↔ a<x.id∧ okT x=true:= by
 unfold tenOk ask1 okT
 simp only[Bool.and_eq_true,decide_eq_true_eq]
 constructor
 ·rintro⟨⟨⟨⟨h1,h2⟩,h3⟩,h4⟩,h5⟩;exact⟨h1,⟨⟨h2,h3⟩,h4⟩,h5⟩
 ·rintro⟨h1,⟨⟨h2,h3⟩,h4⟩,h5⟩;exact⟨⟨⟨⟨h1,h2⟩,h3⟩,h4⟩,h5⟩
theorem tensOk_iff:∀ {ts:List Tenant} {a:Int},tensOk a ts=true↔ (∀x∈ ts,a<x.id∧ okT x=true)∧ts.Pairwise (fun x y=>x.id< y.id)
 |[],a=>by simp[tensOk]
 |y:: ts,a=>by
  rw[tensOk,Bool.and_eq_true,tenOk_iff,tensOk_iff,List.pairwise_cons]
  constructor
  ·rintro⟨⟨h1,h2⟩,h3,h4⟩
   refine⟨fun x hx=> ?_,fun x hx=>(h3 x hx).1,h4⟩
   rcases List.mem_cons.1 hx with rfl|hx
   ·exact⟨h1,h2⟩
   ·have:=h3 x hx;exact⟨by omega,this.2⟩
  ·rintro⟨h1,h2,h3⟩
   exact⟨h1 y (List.mem_cons_self ..),fun x hx=>⟨h2 x hx,(h1 x (List.mem_cons_of_mem _ hx)).2⟩,h3⟩
def findO (ts:List Tenant) (id:Int):Option Tenant:=ts.find? (fun x=>x.id== id)
def bucketL (ts:List Tenant) (id:Int):Int:= match findO ts id with|some x=>x.bucket| none=>0
theorem findO_mem {ts:List Tenant} {id:Int} {x:Tenant} (h:findO ts id=some x):x∈ ts∧x.id= id:=
 ⟨List.mem_of_find?_eq_some h,by simpa using List.find?_some h⟩
theorem findIdx_find:∀(ts:List Tenant) (id:Int),((ts.findIdx? (fun x=>x.id== id)).bind fun k=>ts[k]?)=findO ts id
 |[],_=>rfl
 |y:: ts,id=>by
  unfold findO
  rw[List.findIdx?_cons,List.find?_cons]
  by_cases h:(y.id==id)=true
  ·rw[if_pos h,h];rfl
  ·rw[if_neg h]
   rw[Bool.not_eq_true]at h
   rw[h]
   have:=findIdx_find ts id
   unfold findO at this
   simp only
   rw[←this]
   cases ts.findIdx? (fun x=>x.id== id)<;>rfl
theorem findT_eq {ts:List Tenant} (id:Int) (h:tensOk 0 ts=true):findT ts id=match findO ts id with|some x=>(x,true)|none=> (zeroT,false):=by
 have h1:=findIdx_find ts id
 unfold findT
 cases hf:ts.findIdx? (fun x=>x.id== id)with
 |none=> rw[hf]at h1;rw[←h1];rfl
 |some k=>
  rw[hf]at h1
  have hk:k< ts.length:=(List.findIdx?_eq_some_iff_getElem.1 hf).1
  simp only[Option.bind_some]at h1
  rw[←h1,List.getElem?_eq_getElem hk]
  simp[h,List.getElem?_eq_getElem hk]
theorem getS_eq {ts:List Tenant} (id:Int) (h:tensOk 0 ts=true):getS ts id=match findO ts id with|some x=>if x.gone=true then Ans.err 161 else⟨0,x.rate,x.burst,0,0⟩|none=> Ans.err 161:=by
 unfold getS
 rw[if_neg (by rw[h];simp),findT_eq id h]
 cases findO ts id with
 |none=> rw[if_pos (.inl rfl)]
 |some x=>
  simp only
  by_cases hg:x.gone= true
  ·rw[if_pos (.inr hg),if_pos hg]
  ·rw[if_neg (by simp[hg]),if_neg hg]
theorem findT_bucket {ts:List Tenant} (id:Int) (h:tensOk 0 ts=true):(findT ts id).1.bucket=bucketL ts id:=by
 rw[findT_eq id h];unfold bucketL
 cases findO ts id<;>rfl
theorem bucketL_range {ts:List Tenant} (id:Int) (h:tensOk 0 ts=true):0≤ bucketL ts id:=by
 unfold bucketL
 cases hf:findO ts id with
 |none=> exact Int.le_refl _
 |some x=>
  have:=((tensOk_iff.1 h).1 x (findO_mem hf).1).2
  unfold okT ask3 at this
  simp only[Bool.and_eq_true,decide_eq_true_eq]at this
  exact this.1.2.1
theorem withL_eq {ts:List Tenant} (x:Tenant) (h:tensOk 0 ts=true):withL x ts=insR x (filterL x.id ts):=by
 rw[insR_eq,filter_without x.id h];rfl
theorem mem_insR {x y:Tenant}:∀ {l:List Tenant},y∈insR x l↔y= x∨y∈ l
 |[]=>by simp[insR]
 |z:: l=>by
  unfold insR
  split
  ·simp
  ·rw[List.mem_cons,mem_insR,List.mem_cons]
   constructor
   ·rintro(h|h| h)<;>simp [h]
   ·rintro(h|h| h)<;>simp [h]
theorem insR_sorted {x:Tenant}:∀ {l:List Tenant},l.Pairwise (fun x y=>x.id< y.id)→(∀y∈ l,y.id≠x.id)→(insR x l).Pairwise (fun x y=>x.id< y.id)
 |[],_,_=>by simp[insR]
 |z:: l,h,hn=>by
  rw[List.pairwise_cons]at h
  unfold insR
  split
  ·rename_i hlt
   rw[List.pairwise_cons,List.pairwise_cons]
   refine⟨fun y hy=> ?_,h⟩
   rcases List.mem_cons.1 hy with rfl|hy
   ·exact hlt
   ·have:=h.1 y hy;omega
  ·rename_i hlt
   rw[List.pairwise_cons]
   refine⟨fun y hy=> ?_,insR_sorted h.2 fun y hy=>hn y (List.mem_cons_of_mem _ hy)⟩
   rcases mem_insR.1 hy with rfl|hy
   ·have:=hn z (List.mem_cons_self ..);omega
   ·exact h.1 y hy
theorem find_insR_self {x:Tenant}:∀ {l:List Tenant},(∀y∈ l,y.id≠x.id)→findO (insR x l) x.id=some x
 |[],_=>by simp[insR,findO]
 |z:: l,hn=>by
  have hz:=hn z (List.mem_cons_self ..)
  unfold insR
  split
  ·simp[findO]
  ·have:=find_insR_self (l:=l) fun y hy=>hn y (List.mem_cons_of_mem _ hy)
   unfold findO at this ⊢
   rw[List.find?_cons_of_neg (by simpa using hz)]
   exact this
theorem find_insR_other {x:Tenant} {id:Int} (h:x.id≠ id):∀l: List Tenant,findO (insR x l) id=findO l id
 |[]=>by simp[insR,findO,h]
 |z:: l=>by
  have ih:=find_insR_other h l
  unfold insR
  split
  ·unfold findO;rw[List.find?_cons_of_neg (by simpa using h)]
  ·unfold findO at ih ⊢
   rw[List.find?_cons,List.find?_cons,ih]
theorem find_filter_self (id:Int) (l:List Tenant):findO (filterL id l) id=none:= by
 unfold findO filterL
 rw[List.find?_eq_none]
 intro x hx
 simpa using (List.mem_filter.1 hx).2
theorem find_filter_other {id other:Int} (h:id≠ other):∀l: List Tenant,findO (filterL id l) other=findO l other
 |[]=>rfl
 |z:: l=>by
  have ih:=find_filter_other h l
  by_cases hz:z.id= id
  ·rw[filterL_cons_eq hz,ih];unfold findO;rw[List.find?_cons_of_neg (by simp;omega)]
  ·rw[filterL_cons_ne hz];unfold findO at ih ⊢;rw[List.find?_cons,List.find?_cons,ih]
theorem tensOk_filter {l:List Tenant} (id:Int) (h:tensOk 0 l=true):tensOk 0 (filterL id l)=true:= by
 obtain⟨h1,h2⟩:=tensOk_iff.1 h
 exact tensOk_iff.2 ⟨fun x hx=>h1 x (List.mem_filter.1 hx).1,h2.sublist List.filter_sublist⟩
theorem tensOk_insR {l:List Tenant} {x:Tenant} (h:tensOk 0 l=true) (hx:0< x.id) (ho:okT x=true) (hn:∀y∈ l,y.id≠x.id):tensOk 0 (insR x l)=true:= by
 obtain⟨h1,h2⟩:=tensOk_iff.1 h
 refine tensOk_iff.2 ⟨fun y hy=> ?_,insR_sorted h2 hn⟩
 rcases mem_insR.1 hy with rfl|hy
 ·exact⟨hx,ho⟩
 ·exact h1 y hy
theorem filterL_ne (id:Int) (l:List Tenant):∀y∈ filterL id l,y.id≠id:= fun y hy=>by simpa using (List.mem_filter.1 hy).2
theorem withL_facts {ts:List Tenant} {x:Tenant} (h:tensOk 0 ts=true) (hx:0< x.id) (ho:okT x=true):
 tensOk 0 (withL x ts)=true∧ findO (withL x ts) x.id=some x∧∀other,other≠x.id→ findO (withL x ts) other=findO ts other:=by
 rw[withL_eq x h]
 refine⟨tensOk_insR (tensOk_filter _ h) hx ho (filterL_ne _ _),find_insR_self (filterL_ne _ _),fun other hne=> ?_⟩
 rw[find_insR_other hne.symm,find_filter_other hne.symm]
theorem withoutL_facts {ts:List Tenant} (id:Int) (h:tensOk 0 ts=true):
 tensOk 0 (withoutL id ts)=true∧ findO (withoutL id ts) id=none∧ ∀other,other≠id→ findO (withoutL id ts) other=findO ts other:=by
 rw[←filter_without id h]
 exact⟨tensOk_filter _ h,find_filter_self _ _,fun other hne=>find_filter_other hne.symm _⟩
theorem cutI_le (b burst out:Int) (h:0≤ b):cutI b burst out≤b:= by
 have:=(roomI_range burst out).1
 unfold cutI broughtI
 omega
theorem withoutL_length (id:Int) (ts:List Tenant):(withoutL id ts).length≤ts.length:= by
 unfold withoutL
 split
 ·simp;omega
 ·exact Nat.le_refl _
theorem withL_length (x:Tenant) (ts:List Tenant):(withL x ts).length≤ts.length+ 1:=by
 have h:=withoutL_length x.id ts
 unfold withL
 simp
 omega
end Go.Proofs.YtfdmhpohfjbpfaaGreat
namespace Go.Proofs.YtfdmhpohfjbpfaaGreat
open Go.ChangeShapes Go.WideShapes Go.ChangeAt Go.RowKit
set_option maxRecDepth 100000
def setS (ts:List Tenant) (x:Tenant):List Tenant×Int:= if tensOk 0 ts=true∧ tensOk 0 (withL x ts)=true then(withL x ts,0)else(ts,2)
def RetTE (w:World) (src:Option Addr) (r:List Tenant×Int) (e:Ending) (w':World):Prop:=
 ∃a c,e= .returned (.tuple #[.slice a r.1.length c,.int .i64 r.2])∧r.1.length≤ c∧(a=none→ c=0)∧Near w.heap.size src a∧TRow w' a r.1∧Below w.heap.size w w'
set_option maxHeartbeats 1000000 in
theorem set_any (ts:List Tenant) (a:Option Addr) (n c:Nat) (x:Tenant) (w:World) (hn:ts.length= n) (hl:ts.length≤ 900) (hc:a= none→c= 0) (hnc:n≤ c) (hr:TRow w a ts):
 Calls Tryz.prog 127 #[.slice a n c,x.agg] w (RetTE w a (setS ts x)):=by
 subst hn
 have hlw:=withL_length x ts
 have hmax:ts.length≤ maxLen:=le_maxLen (by omega)
 have hmaw:(withL x ts).length≤maxLen:= le_maxLen (by omega)
 have HS:Hid (setS ts x=if tensOk 0 ts=true∧ tensOk 0 (withL x ts)=true then(withL x ts,0)else(ts,2)):=rfl
 generalize setS ts x=res at HS ⊢
 have HW:Hid (withL x ts=withL x ts):=rfl
 generalize hwl:withL x ts=wl at HS hlw hmaw HW
 have HWL:=Lib.hid hwl
 clear hwl HW
 cases h1:tensOk 0 ts with
 |false=>
  have H1:=Lib.hid h1
  have HO:Hid (res=(ts,2)):=by rw[HS.out,if_neg (fun h=>by rw[h1]at h;cases h.1)];exact rfl
  clear h1 HS
  go_enter Tryz.func127,Tryz.ntmps127
  go_wp2_with(first|(go_at_call 116;((with_reducible refine(with_any ts _ _ _ x _ rfl (by omega) hc hnc (hr.below belo)).mono ?_);rw[HWL.out];rintro e w2 ⟨a2,c2,rfl,hc2,hn2,hnear2,hr2,hb2⟩))|(go_at_call 76;((with_reducible refine(check_any ts a _ _ _ rfl hmax (hr.below belo)).mono ?_);rw[H1.out];rintro e w3 ⟨rfl,hb3⟩)))
  go_returns
  exact⟨a,c,by rw[HO.out];rfl,by rw[HO.out];exact hnc,hc,Near.self _ _,by rw[HO.out];exact hr.below belo,belo⟩
 |true=>
  have H1:=Lib.hid h1
  cases h2:tensOk 0 wl with
  |false=>
   have H2:=Lib.hid h2
   have HO:Hid (res=(ts,2)):=by rw[HS.out,if_neg (fun h=>by rw[h2]at h;cases h.2)];exact rfl
   clear h1 h2 HS
   go_enter Tryz.func127,Tryz.ntmps127
   go_wp2_with(first|(go_at_call 116;((with_reducible refine(with_any ts _ _ _ x _ rfl (by omega) hc hnc (hr.below belo)).mono ?_);rw[HWL.out];rintro e w2 ⟨a2,c2,rfl,hc2,hn2,hnear2,hr2,hb2⟩))|(go_at_call 76;((with_reducible refine(check_any ts a _ _ _ rfl hmax (hr.below belo)).mono ?_);rw[H1.out];rintro e w3 ⟨rfl,hb3⟩))|(go_at_call 76;((with_reducible refine(check_any wl a2 _ _ _ rfl hmaw (hr2.below belo)).mono ?_);rw[H2.out];rintro e w4 ⟨rfl,hb4⟩)))
   go_returns
   exact⟨a,c,by rw[HO.out];rfl,by rw[HO.out];exact hnc,hc,Near.self _ _,by rw[HO.out];exact hr.below belo,belo⟩
  |true=>
   have H2:=Lib.hid h2
   have HO:Hid (res=(wl,0)):=by rw[HS.out,if_pos ⟨h1,h2⟩];exact rfl
   clear h1 h2 HS
   go_enter Tryz.func127,Tryz.ntmps127
   go_wp2_with(first|(go_at_call 116;((with_reducible refine(with_any ts _ _ _ x _ rfl (by omega) hc hnc (hr.below belo)).mono ?_);rw[HWL.out];rintro e w2 ⟨a2,c2,rfl,hc2,hn2,hnear2,hr2,hb2⟩))|(go_at_call 76;((with_reducible refine(check_any ts a _ _ _ rfl hmax (hr.below belo)).mono ?_);rw[H1.out];rintro e w3 ⟨rfl,hb3⟩))|(go_at_call 76;((with_reducible refine(check_any wl a2 _ _ _ rfl hmaw (hr2.below belo)).mono ?_);rw[H2.out];rintro e w4 ⟨rfl,hb4⟩)))
   go_returns
   exact⟨a2,c2,by rw[HO.out];rfl,by rw[HO.out];exact hc2,hn2,(hnear2.mono (by simp)).trans' _,by rw[HO.out];exact hr2.below belo,belo⟩
def layTen:Lay Tryz.prog 75 Tenant:=Lay.struct Tenant.cells 5 40 (fun _=>rfl) (by decide) (by decide) (fun x u hu=>by simp at hu;rcases hu with h|h| h|h| h<;>subst h<;>rfl) (by kernel_rfl) _ Tryz.underlying75 rfl
end Go.Proofs.YtfdmhpohfjbpfaaGreat
namespace Go.Proofs.YtfdmhpohfjbpfaaGreat
section
variable {α:Type} {p q:α→ Bool} {xs us:List α} {i j k:Nat}
def idxL (p:α→ Bool) (xs:List α):Int:= match xs.findIdx? p with|some k=>(k:Int)|none=> -1
theorem idxL_some (hk:k< xs.length) (hno:∀j (h:j< xs.length),j<k→ p xs[j]=false) (hp:p xs[k]=true):idxL p xs=k:= by
 have:xs.findIdx? p=some k:=by
  rw[List.findIdx?_eq_some_iff_getElem]
  exact⟨hk,hp,fun j hj=>by rw[hno j (by omega) hj];simp⟩
 unfold idxL;rw[this]
theorem idxL_none (hno:∀j (h:j< xs.length),p xs[j]=false):idxL p xs= -1:= by
 have:xs.findIdx? p=none:= by
  rw[List.findIdx?_eq_none_iff]
  intro x hx
  obtain⟨j,hj,rfl⟩:=List.mem_iff_getElem.1 hx
  exact hno j hj
 unfold idxL;rw[this]
theorem idxL_ways (p:α→ Bool) (xs:List α):(idxL p xs= -1∧ ∀x∈ xs,p x=false)∨∃k,∃hk: k<xs.length,idxL p xs=k∧ p xs[k]=true∧ ∀j (h:j< xs.length),j<k→ p xs[j]=false:= by
 unfold idxL
 cases h:xs.findIdx? p with
 |none=> exact .inl ⟨rfl,List.findIdx?_eq_none_iff.1 h⟩
 |some k=>
  obtain⟨hk,h1,h2⟩:=List.findIdx?_eq_some_iff_getElem.1 h
  exact .inr ⟨k,hk,rfl,h1,fun j hj hlt=>by simpa using h2 j hlt⟩
theorem idxL_find (p:α→ Bool) (xs:List α):(idxL p xs= -1∧ xs.find? p=none)∨∃k,∃hk: k<xs.length,idxL p xs=k∧ xs.find? p=some xs[k]:=by
 rcases idxL_ways p xs with⟨h1,h2⟩|⟨k,hk,h1,h2,h3⟩
 ·exact .inl ⟨h1,List.find?_eq_none.2 fun x hx=>by rw[h2 x hx];simp⟩
 ·exact .inr ⟨k,hk,h1,List.find?_eq_some_iff_getElem.2 ⟨h2,k,hk,rfl,fun j hj=>by rw[h3 j (by omega) hj];rfl⟩⟩
def hitAt (cmp:α→ Int):Option α→Bool
 |some x=>cmp x==0
 |none=> false
theorem df_keep (hj:j< xs.length) (hl:us.length= xs.length) (hij:i< j) (h1:us.take i=(xs.take j).filter q) (h2:us.drop j=xs.drop j) (hq:q xs[j]=true):
 (us.set i xs[j]).take (i+1)=(xs.take (j+1)).filter q∧(us.set i xs[j]).drop (j+1)=xs.drop (j+1):=by
 constructor
 ·rw[List.take_succ_eq_append_getElem (by rw[List.length_set];omega),List.getElem_set_self,List.take_set_of_le (Nat.le_refl _),h1,List.take_succ_eq_append_getElem hj,List.filter_append,List.filter_cons,if_pos hq];rfl
 ·rw[List.drop_set_of_lt (by omega)]
  have:=congrArg (List.drop 1) h2
  simpa using this
theorem df_drop (hj:j< xs.length) (h1:us.take i=(xs.take j).filter q) (h2:us.drop j=xs.drop j) (hq:q xs[j]=false):
 us.take i=(xs.take (j+1)).filter q∧us.drop (j+1)=xs.drop (j+1):=by
 constructor
 ·rw[h1,List.take_succ_eq_append_getElem hj,List.filter_append,List.filter_cons,if_neg (by rw[hq];simp)];simp
 ·have:=congrArg (List.drop 1) h2
  simpa using this
theorem df_at (hj:j< xs.length) (hl:us.length= xs.length) (h2:us.drop j=xs.drop j):us[j]'(by omega)=xs[j]:=by
 have:=congrArg (fun l=>l[0]?) h2
 simp only[List.getElem?_drop,Nat.add_zero,List.getElem?_eq_getElem hj,List.getElem?_eq_getElem (show j<us.length by omega),Option.some.injEq]at this
 exact this
theorem df_start (hk:k< xs.length) (hp:q xs[k]=false) (hno:∀j (h:j< xs.length),j<k→ q xs[j]=true):xs.take k=(xs.take (k+1)).filter q:=by
 rw[List.take_succ_eq_append_getElem hk,List.filter_append,List.filter_cons,if_neg (by rw[hp];simp),List.filter_nil,List.append_nil]
 symm
 rw[List.filter_eq_self]
 intro x hx
 obtain⟨j,hj,rfl⟩:=List.mem_iff_getElem.1 hx
 rw[List.length_take]at hj
 rw[List.getElem_take]
 exact hno j (by omega) (by omega)
end
end Go.Proofs.YtfdmhpohfjbpfaaGreat
namespace Go.Proofs.YtfdmhpohfjbpfaaGreat
open Go.ChangeShapes Go.WideShapes Go.ChangeAt Go.RowKit
set_option maxRecDepth 100000
set_option maxHeartbeats 1000000 in
theorem indexFuncTen (xs:List Tenant) (a:Option Addr) (n c:Nat) (fid:FuncId) (cap:Array Value) (p:Tenant→ Bool) (w:World) (hn:xs.length= n) (hl:n≤ maxLen) (hr:LRow layTen w a xs)
 (hcf:∀(args:Array Value) (w:World),(callFunc fid args).run Tryz.prog w= .ok (.enter fid args) w)
 (hf:∀x∈ xs,∀w',Below w.heap.size w w'→Calls Tryz.prog fid (#[(layTen).val x]++cap) w' fun e w''=>e= .returned (.bool (p x))∧Below w'.heap.size w' w''):
 Calls Tryz.prog 39 #[.slice a n c,.func (.func fid) #[] cap] w fun e w'=>e= .returned (.int .i64 (idxL p xs))∧Below w.heap.size w w':=by
 subst hn
 have hl2:=lt_maxLen hl
 have HI:=Lib.hid (fun k (hk:k< xs.length)=>idxL_some (p:=p) hk)
 have HN:=Lib.hid (idxL_none (p:=p) (xs:=xs))
 have HF:=Lib.hid hf
 generalize idxL p xs=res at HI HN ⊢
 clear hf
 go_enter Tryz.func39,Tryz.ntmps39
 go_wp2
 go_loopw [8] (fun i wr=>∃k: Nat,k≤xs.length∧ i= .int .i64 k∧(∀j (h:j< xs.length),j<k→ p xs[j]=false)∧Below w.heap.size w wr) (fun i _=>xs.length- (intOf i).toNat)
 case atStart=>exact ⟨0,by omega,rfl,by omega,Below.refl _ _⟩
 case round=>
  obtain⟨k,hk,rfl,hno,hb⟩:=hrel
  have HNO:=Lib.hid hno
  clear hno
  by_cases hlt:k< xs.length
  ·obtain⟨b,o,rfl,hcs⟩:=hr.range hlt
   have hrange:=Lib.hid (hcs _ hb)
   have HF1:=Lib.hid (HF.out xs[k] (List.getElem_mem hlt) wr hb)
   clear hcs
   cases hp:p xs[k]with
   |true=>
    go_wp2_with(first|(refine wpList_load_lay layTen rfl _ rfl b (o+k* (layTen).size) rfl _ hrange.out ?_)|(refine HF1.out.mono ?_;rw[hp];rintro e w2 ⟨rfl,hb2⟩))
    go_returns
    exact⟨ret_int (HI.out k hlt HNO.out hp).symm,hb.trans (hb2.mono hb.size)⟩
   |false=>
    go_wp2_with(first|(refine wpList_load_lay layTen rfl _ rfl b (o+k* (layTen).size) rfl _ hrange.out ?_)|(refine HF1.out.mono ?_;rw[hp];rintro e w2 ⟨rfl,hb2⟩))
    go_roundw
    case rel=>exact ⟨k+1,by omega,by go_num,fun j h hj=>by rcases Nat.lt_succ_iff_lt_or_eq.1 hj with h1|rfl;exact HNO.out j h h1;exact hp,hb.trans (hb2.mono hb.size)⟩
    case measure=>simp [intOf];omega
  ·go_wp2
   go_returns
   exact⟨ret_int (HN.out fun j h=>HNO.out j h (by omega)).symm,hb⟩
def RetDelTen (B:Nat) (w:World) (a:Option Addr) (c:Nat) (xs:List Tenant) (e:Ending) (w':World):Prop:=
 e= .returned (.slice a xs.length c)∧LRow layTen w' a xs∧Below B w w'
set_option maxHeartbeats 2000000 in
theorem deleteFuncTen (xs:List Tenant) (B g n c:Nat) (fid:FuncId) (cap:Array Value) (p:Tenant→ Bool) (w:World) (hn:xs.length= n) (hnc:n≤ c) (hl:c≤ maxLen) (hm:Mine layTen w B g 0 xs) (hB:B≤ w.heap.size)
 (hcf:∀(args:Array Value) (w:World),(callFunc fid args).run Tryz.prog w= .ok (.enter fid args) w)
 (hf:∀x∈ xs,∀w',Below B w w'→Calls Tryz.prog fid (#[(layTen).val x]++cap) w' fun e w''=>e= .returned (.bool (p x))∧Below w'.heap.size w' w''):
 Calls Tryz.prog 149 #[.slice (some ⟨g,0,none⟩) n c,.func (.func fid) #[] cap] w (RetDelTen B w (some ⟨g,0,none⟩) c (xs.filter fun x=> !p x)):=by
 subst hn
 have hl2:=lt_maxLen hl
 have hlm:xs.length≤ maxLen:=Nat.le_trans hnc hl
 have HF:=Lib.hid hf
 clear hf
 have HIX:=Lib.hid (indexFuncTen xs (some ⟨g,0,none⟩) xs.length c fid cap p w rfl hlm hm.row hcf (fun x hx w' hb=>HF.out x hx w' (hb.mono hB)))
 have HM:=Lib.hid hm
 rcases idxL_ways p xs with⟨h1,h2⟩|⟨k,hk,h1,h2,h3⟩
 ·have HI:=Lib.hid h1
  have HO:Hid ((xs.filter fun x=> !p x)=xs):=List.filter_eq_self.2 fun x hx=>by rw[h2 x hx];rfl
  clear h1 h2 hm
  generalize(xs.filter fun x=> !p x)=res at HO ⊢
  go_enter Tryz.func149,Tryz.ntmps149
  go_wp2_with(go_at_call 39;((with_reducible refine HIX.out.mono ?_);rw[HI.out];rintro e w2 ⟨rfl,hb⟩))
  go_returns
  obtain rfl:=HO.out
  exact⟨rfl,Row.below HM.out.row hb,hb.mono hB⟩
 ·have HI:=Lib.hid h1
  have HS:=Lib.hid (df_start (q:=fun x=> !p x) hk (by simp[h2]) (fun j h hj=>by simp[h3 j h hj]))
  have HFL:Hid (∀(us:List Tenant) (i:Nat),i≤us.length→ us.take i=xs.filter (fun x=> !p x)→(xs.filter fun x=> !p x).length=i):=fun us i hi h=>by rw[←h,List.length_take];omega
  have HFE:Hid (∀(us:List Tenant) (i:Nat),us.take i=(xs.take xs.length).filter (fun x=> !p x)→us.take i=xs.filter (fun x=> !p x)):=fun us i h=>by rw[h,List.take_length]
  clear h1 h2 h3 hm
  have hz:=HM.out.lt (by intro h;rw[h]at hk;simp at hk)
  generalize hres:(xs.filter fun x=> !p x)=res at HFL HFE ⊢
  have HRES:=Lib.hid hres
  clear hres
  have hk1:((k:Int)== -1)=false:= by rw[beq_eq_false_iff_ne];omega
  go_enter Tryz.func149,Tryz.ntmps149
  go_wp2_with(go_at_call 39;((with_reducible refine HIX.out.mono ?_);rw[HI.out];rintro e w2 ⟨rfl,hb⟩))
  go_loopw [5,6] (fun si sj wr=>∃i j:Nat,∃us: List Tenant,si= .int .i64 i∧sj= .int .i64 j∧i< j∧j≤ xs.length∧Hid (us.length=xs.length)∧Hid (us.take i=(xs.take j).filter (fun x=> !p x))∧Hid (us.drop j=xs.drop j)∧Hid (Mine layTen wr B g 0 us)∧Below B w wr) (fun _ sj _=>xs.length- (intOf sj).toNat)
  case atStart=>exact ⟨k,k+1,xs,rfl,by go_num,by omega,by omega,rfl,HS.out,rfl,HM.out.below hb hz,hb.mono hB⟩
  case round=>
   obtain⟨i,j,us,rfl,rfl,hij,hj,HL,HT,HD,HMR,hbr⟩:=hrel
   by_cases hlt:j< xs.length
   ·have hju:j< us.length:=by rw[HL.out];exact hlt
    have hiu:i< us.length:=by rw[HL.out];omega
    have hr0:=HMR.out.range hju
    have HA:=Lib.hid (df_at hlt HL.out HD.out)
    have hgr:=HMR.out.lt (by intro h;rw[h]at hju;simp at hju)
    have hBr:B≤ wr.heap.size:=Nat.le_trans HMR.out.base (by omega)
    rw[HA.out,Nat.zero_add]at hr0
    have hrange:=Lib.hid hr0
    clear hr0
    have HF1:=fun (w':World) (hb:Below B w w')=>HF.out xs[j] (List.getElem_mem hlt) w' hb
    have HF2:=Lib.hid HF1
    clear HF1
    cases hp:p xs[j]with
    |true=>
     go_wp2_with(first|(refine wpList_load_lay layTen rfl _ rfl g (j*(layTen).size) rfl _ hrange.out ?_)|(refine wpList_store_box layTen rfl _ _ rfl xs[j] rfl rfl rfl ?_;intro w3 hw3 _ hb3 hs3;have Hw3:=Lib.hid hw3;clear hw3)|(refine wpList_load_lay layTen rfl _ rfl wr.heap.size 0 rfl _ Hw3.out ?_)|(refine(HF2.out _ (hbr.trans (hb3.mono hBr))).mono ?_;rw[hp];rintro e w4 ⟨rfl,hb4⟩))
     go_roundw
     case rel=>exact ⟨i,j+1,us,rfl,by go_num,by omega,by omega,HL.out,(df_drop hlt HT.out HD.out (by simp[hp])).1,(df_drop hlt HT.out HD.out (by simp[hp])).2,(HMR.out.below hb3 hgr).below hb4 (by omega),(hbr.trans (hb3.mono hBr)).trans (hb4.mono (by omega))⟩
     case measure=>simp [intOf];omega
    |false=>
     have HK:=Lib.hid (df_keep hlt HL.out hij HT.out HD.out (by simp[hp]))
     go_wp2_with(first|(refine wpList_load_lay layTen rfl _ rfl g (j*(layTen).size) rfl _ hrange.out ?_)|(refine wpList_store_box layTen rfl _ _ rfl xs[j] rfl rfl rfl ?_;intro w3 hw3 _ hb3 hs3;have Hw3:=Lib.hid hw3;clear hw3)|(refine wpList_load_lay layTen rfl _ rfl wr.heap.size 0 rfl _ Hw3.out ?_)|(refine(HF2.out _ (hbr.trans (hb3.mono hBr))).mono ?_;rw[hp];rintro e w4 ⟨rfl,hb4⟩;have Hw3:=Lib.hid (rangeAt_below Hw3.out hb4 (by omega)))|(refine wpList_store_mine layTen rfl _ _ rfl (o:=0) ((HMR.out.below hb3 hgr).below hb4 (by omega)) i hiu xs[j] (by rw[Nat.zero_add];rfl) rfl ?_;intro w5 hm5 hb5 hs5;have HM5:=Lib.hid hm5;have HB5:=Lib.hid hb5;clear hm5 hb5))
     go_roundw
     case rel=>exact ⟨i+1,j+1,us.set i xs[j],by go_num,by go_num,by omega,by omega,by show _=_;rw[List.length_set];exact HL.out,HK.out.1,HK.out.2,HM5.out,((hbr.trans (hb3.mono hBr)).trans (hb4.mono (by omega))).trans (HB5.out _ HMR.out.base)⟩
     case measure=>simp [intOf];omega
   ·obtain rfl:j= xs.length:=by omega
    have HR:=Lib.hid (HFE.out us i HT.out)
    have HN:=Lib.hid (HFL.out us i (by rw[HL.out];omega) HR.out)
    have hcn:¬c= i:=by omega
    have hic:i≤ c:=by omega
    have hin:i≤ xs.length:=by omega
    go_wp2_with(refine wpList_clear_mine layTen Tryz.underlying22 rfl _ rfl (o:=0) HMR.out i (by rw[HL.out];omega) (xs.length-i) (c-i) (by rw[HL.out];omega) (by rw[Nat.zero_add];rfl) ?_;intro w5 hm5 hb5 hs5;have HM5:=Lib.hid hm5;have HB5:=Lib.hid hb5;clear hm5 hb5)
    go_returns
    have hm5:=HM5.out
    rw[HR.out]at hm5
    exact⟨by rw[HN.out];rfl,hm5.row,hbr.trans (HB5.out _ HMR.out.base)⟩
theorem deleteFuncNilTen (a:Option Addr) (c:Nat) (fid:FuncId) (cap:Array Value) (w:World)
 (hcf:∀(args:Array Value) (w:World),(callFunc fid args).run Tryz.prog w= .ok (.enter fid args) w):
 Calls Tryz.prog 149 #[.slice a 0 c,.func (.func fid) #[] cap] w fun e w'=>e= .returned (.slice a 0 c)∧Below w.heap.size w w':=by
 have HIX:=Lib.hid (indexFuncTen [] a 0 c fid cap (fun _=>false) w rfl (Nat.zero_le _) (.inl rfl) hcf (fun x hx=>absurd hx (by simp)))
 go_enter Tryz.func149,Tryz.ntmps149
 go_wp2_with(go_at_call 39;((with_reducible refine HIX.out.mono ?_);rintro e w2 ⟨rfl,hb⟩))
 go_returns
 exact⟨rfl,hb⟩
def outOf (outs:List Int) (id:Int):Int:= outs.getD (id-1).toNat 0
def goneP (outs:List Int) (x:Tenant):Bool:= x.gone&&decide (outOf outs x.id≤0)
def sweepS (ts:List Tenant) (outs:List Int):List Tenant:=if tensOk 0 ts=true then ts.filter (fun x=> !goneP outs x)else ts
theorem outOf_far {outs:List Int} {id:Int} (h:(outs.length:Int)<id):outOf outs id=0:= by
 unfold outOf;rw[List.getD_eq_getElem?_getD,List.getElem?_eq_none (by omega)];rfl
theorem outOf_at {outs:List Int} {id:Int} (h1:1≤ id) (h:id≤ (outs.length:Int)):∃k: Nat,k<outs.length∧ id-1= k∧outs[k]? =some (outOf outs id):=by
 refine⟨(id-1).toNat,by omega,by omega,?_⟩
 unfold outOf
 rw[List.getD_eq_getElem?_getD,List.getElem?_eq_getElem (by omega)];rfl
theorem sweepS_length (ts:List Tenant) (outs:List Int):(sweepS ts outs).length≤ts.length:= by
 unfold sweepS;split
 ·exact List.length_filter_le _ _
 ·exact Nat.le_refl _
set_option maxHeartbeats 1000000 in
theorem sweep1_any (x:Tenant) (outs:List Int) (bl:Nat) (a:Option Addr) (n c:Nat) (w:World) (hn:outs.length= n) (hl:n≤ 1000) (h1:1≤ x.id) (hc:w.cell? ⟨bl,0,none⟩=some (.slice a n c)) (hr:Row w a (outs.map (Value.int .i64))):
 Calls Tryz.prog 150 #[x.agg,.pointer (some ⟨bl,0,none⟩)] w fun e w'=>e= .returned (.bool (goneP outs x))∧Below w.heap.size w w':=by
 subst hn
 obtain⟨id,rate,burst,bucket,gone⟩:=x
 simp only at h1
 have hlt:=World.block_lt_of_cell? w _ hc
 simp only at hlt
 cases gone
 ·go_enter Tryz.func150,Tryz.ntmps150
  go_wp2
  go_returns
  exact⟨ret_bool (by simp[goneP]),by go_grown⟩
 ·by_cases hfar:(outs.length:Int)<id
  ·have HF:=Lib.hid (outOf_far hfar)
   go_enter Tryz.func150,Tryz.ntmps150
   go_wp2
   go_returns
   exact⟨ret_bool (by unfold goneP;simp only;rw[HF.out];rfl),by go_grown⟩
  ·obtain⟨k,hk,hk2,hk3⟩:=outOf_at (outs:=outs) h1 (by omega)
   obtain⟨b,o,rfl,hcell⟩:=Row.getBelow hr (k:=k) (by rw[List.getElem?_map,hk3];rfl)
   have hcl:=hcell _ ((Below.refl w.heap.size w).alloc (Nat.le_refl _) (.cells #[.int .i64 id,.int .i64 rate,.int .i64 burst,.int .i64 bucket,.bool true] 75))
   obtain rfl:id= k+1:= by omega
   generalize hov:outOf outs (k+1)=ov at hcl
   have HOV:=Lib.hid hov
   clear hcell hk3 hov hk2 h1
   go_enter Tryz.func150,Tryz.ntmps150
   go_wp2
   go_returns
   exact⟨ret_bool (by unfold goneP;simp only;rw[HOV.out];simp),by go_grown⟩
theorem enter_sweep1 (args:Array Value) (w:World):(callFunc 150 args).run Tryz.prog w= .ok (.enter 150 args) w:=by kernel_rfl
set_option maxHeartbeats 1000000 in
theorem sweep_any (ts:List Tenant) (outs:List Int) (a b:Option Addr) (n c m d:Nat) (w:World) (hn:ts.length= n) (hm:outs.length= m) (hl:ts.length≤ 900) (hlo:m≤ 1000) (hc:a= none→c= 0) (hnc:n≤ c) (hr:TRow w a ts) (hro:Row w b (outs.map (Value.int .i64))):
 Calls Tryz.prog 97 #[.slice a n c,.slice b m d] w (RetT w a (sweepS ts outs)):=by
 subst hn
 have hmax:ts.length≤ maxLen:=le_maxLen (by omega)
 have HS:Hid (sweepS ts outs=if tensOk 0 ts=true then ts.filter (fun x=> !goneP outs x)else ts):=rfl
 generalize sweepS ts outs=res at HS ⊢
 have hbx:(w.alloc (.cells #[.slice b m d] 52)).cell? ⟨w.heap.size,0,none⟩=some (.slice b m d):=World.cell?_alloc_at _ _ _ 0 rfl
 cases h1:tensOk 0 ts with
 |false=>
  have H1:=Lib.hid h1
  have HO:Hid (res=ts):=by rw[HS.out,if_neg (by rw[h1];simp)];exact rfl
  clear h1 HS hbx
  go_enter Tryz.func97,Tryz.ntmps97
  go_wp2_with(first|(go_at_call 76;((with_reducible refine(check_any ts a _ _ _ rfl hmax (hr.below belo)).mono ?_);rw[H1.out];rintro e w3 ⟨rfl,hb3⟩)))
  go_returns
  exact⟨a,c,by rw[HO.out];rfl,by rw[HO.out];exact hnc,hc,Near.self _ _,by rw[HO.out];exact hr.below belo,belo⟩
 |true=>
  have H1:=Lib.hid h1
  have HID:Hid (∀x∈ ts,1≤x.id):=fun x hx=>by have:=tensOk_all h1 x hx;omega
  have HO:Hid (res=ts.filter (fun x=> !goneP outs x)):=by rw[HS.out,if_pos h1];exact rfl
  have HBX:=Lib.hid hbx
  clear h1 HS hbx
  have hcf:=enter_sweep1
  by_cases h0:ts= []
  ·subst h0
   go_enter Tryz.func97,Tryz.ntmps97
   go_wp2_with(first|(go_at_call 76;((with_reducible refine(check_any [] a 0 _ _ rfl (Nat.zero_le _) (Row.nil _ _)).mono ?_);rw[H1.out];rintro e w3 ⟨rfl,hb3⟩))|(go_at_call 98;((with_reducible refine(clone_any [] a 0 _ _ rfl (by simp) hc (Nat.zero_le _) (Row.nil _ _)).mono ?_);rintro e w4 ⟨a4,c4,rfl,hnear4,hcan4,_,hb4⟩))|(go_at_call 149;((with_reducible refine(deleteFuncNilTen a4 c4 _ _ _ hcf).mono ?_);rintro e w5 ⟨rfl,hb5⟩)))
   go_returns
   exact⟨a4,c4,by rw[HO.out];rfl,by rw[HO.out];exact hcan4.le,hcan4.none (by decide),(hnear4.mono besz).trans' _,by rw[HO.out];exact .inl rfl,belo⟩
  ·go_enter Tryz.func97,Tryz.ntmps97
   go_wp2_with(first|(go_at_call 76;((with_reducible refine(check_any ts a _ _ _ rfl hmax (hr.below belo)).mono ?_);rw[H1.out];rintro e w3 ⟨rfl,hb3⟩))|(go_at_call 98;((with_reducible refine(clone_any ts a _ _ _ rfl (by omega) hc hnc (hr.below belo)).mono ?_);rintro e w4 ⟨a4,c4,rfl,hnear4,hcan4,hown4,hb4⟩;obtain⟨g4,rfl,hB4,hcm4⟩:=own_head (hown4 h0) (by cases ts with|nil=> exact absurd rfl h0|cons=> simp);have hm4:=Lib.hid (Mine.of_own (L:=layTen) (hown4 h0));have hs3:=hb3.size))|(go_at_call 149;((with_reducible refine(deleteFuncTen ts w3.heap.size g4 _ c4 _ _ (goneP outs) _ rfl hcan4.le hcm4 hm4.out hb4.size hcf (fun x hx w' hb'=>sweep1_any x outs _ b _ d w' hm hlo (HID.out x hx) (((hb4.trans hb').cell (p:=⟨w.heap.size,0,none⟩) (by simp at hs3;show w.heap.size<_;omega)).trans ((hb3.cell (p:=⟨w.heap.size,0,none⟩) (by simp)).trans HBX.out)) ((Row.below (Row.below (Row.alloc hro _) hb3) (hb4.trans hb'))))).mono ?_);rintro e w5 ⟨rfl,hr5,hb5⟩;have hb45:=hb4.trans hb5)))
   go_returns
   have hle:=List.length_filter_le (fun x=> !goneP outs x) ts
   have hle4:=hcan4.le
   exact⟨some ⟨g4,0,none⟩,c4,by rw[HO.out];rfl,by rw[HO.out];omega,(fun h=>by cases h),(fun b' o' s' h'=>by simp at h';left;obtain⟨rfl,rfl,rfl⟩:=h';simp at hs3;omega),by rw[HO.out];exact hr5,belo⟩
end Go.Proofs.YtfdmhpohfjbpfaaGreat
namespace Go.Proofs.YtfdmhpohfjbpfaaGreat
section
variable {α:Type} {key:α→ Int} {good:α→ Bool}
def chainOk (key:α→ Int) (good:α→ Bool):Int→ List α→Bool
 |_,[]=>true
 |a,x::l=> decide (a<key x)&&good x&&chainOk key good (key x) l
def lastKey (key:α→ Int) (a:Int) (l:List α):Int:= match l.getLast? with|some x=>key x|none=> a
theorem lastKey_take {l:List α} {k:Nat} {a:Int} (h:k< l.length):lastKey key a (l.take (k+1))=key l[k]:=by
 unfold lastKey;rw[List.take_succ_eq_append_getElem h,List.getLast?_concat]
theorem chainOk_append:∀(l m:List α) (a:Int),chainOk key good a (l++m)=(chainOk key good a l&&chainOk key good (lastKey key a l) m)
 |[],m,a=>by simp[chainOk,lastKey]
 |x:: l,m,a=>by
  have e:lastKey key a (x::l)=lastKey key (key x) l:=by
   unfold lastKey
   cases l with
   |nil=> simp
   |cons y l=>
    rw[List.getLast?_cons_cons]
    cases h:(y::l).getLast? with
    |none=> simp at h
    |some z=>rfl
  rw[List.cons_append,chainOk,chainOk,chainOk_append l m,e]
  simp only[Bool.and_assoc]
theorem chainOk_take {l:List α} {k:Nat} {a:Int} (h:k< l.length):chainOk key good a (l.take (k+1))=(chainOk key good a (l.take k)&&(decide (lastKey key a (l.take k)<key l[k])&&good l[k])):=by
 rw[List.take_succ_eq_append_getElem h,chainOk_append];simp[chainOk]
theorem chainOk_bad {l:List α} {k:Nat} {a:Int} (h:k< l.length) (hb:(decide (lastKey key a (l.take k)<key l[k])&&good l[k])=false):chainOk key good a l=false:= by
 have h1:chainOk key good a (l.take (k+1))=false:= by rw[chainOk_take h,hb,Bool.and_false]
 have h2:=chainOk_append (key:=key) (good:=good) (l.take (k+1)) (l.drop (k+1)) a
 rw[List.take_append_drop,h1,Bool.false_and]at h2
 exact h2
theorem chainOk_iff:∀ {l:List α} {a:Int},chainOk key good a l=true↔ (∀x∈ l,a<key x∧good x=true)∧l.Pairwise (fun x y=>key x<key y)
 |[],a=>by simp[chainOk]
 |y:: l,a=>by
  rw[chainOk,Bool.and_eq_true,Bool.and_eq_true,decide_eq_true_eq,chainOk_iff,List.pairwise_cons]
  constructor
  ·rintro⟨⟨h1,h2⟩,h3,h4⟩
   refine⟨fun x hx=> ?_,fun x hx=>(h3 x hx).1,h4⟩
   rcases List.mem_cons.1 hx with rfl|hx
   ·exact⟨h1,h2⟩
   ·have:=h3 x hx;exact⟨by omega,this.2⟩
  ·rintro⟨h1,h2,h3⟩
   exact⟨h1 y (List.mem_cons_self ..),fun x hx=>⟨h2 x hx,(h1 x (List.mem_cons_of_mem _ hx)).2⟩,h3⟩
theorem lastKey_ge {l:List α} {a:Int} (h:chainOk key good a l=true):a≤ lastKey key a l:=by
 unfold lastKey
 cases hl:l.getLast? with
 |none=> exact Int.le_refl _
 |some x=>have:= ((chainOk_iff.1 h).1 x (List.mem_of_getLast? hl)).1;simp only;omega
def findK (key:α→ Int) (l:List α) (id:Int):Option α:=l.find? (fun x=>key x==id)
theorem findK_mem {l:List α} {id:Int} {x:α} (h:findK key l id=some x):x∈ l∧key x=id:=
 ⟨List.mem_of_find?_eq_some h,by simpa using List.find?_some h⟩
theorem findK_at {l:List α} {id:Int} {k:Nat} (hs:l.Pairwise (fun x y=>key x<key y)) (hk:k< l.length) (h:key l[k]=id):findK key l id=some l[k]:=by
 unfold findK
 rw[List.find?_eq_some_iff_getElem]
 refine⟨by simpa using h,k,hk,rfl,fun j hj=> ?_⟩
 have:=(List.pairwise_iff_getElem.1 hs) j k (by omega) hk hj
 simp;omega
theorem findK_none {l:List α} {id:Int} (h:∀j (hj:j< l.length),key l[j]≠id):findK key l id=none:= by
 unfold findK
 rw[List.find?_eq_none]
 intro x hx
 obtain⟨j,hj,rfl⟩:=List.mem_iff_getElem.1 hx
 simpa using h j hj
def insK (key:α→ Int) (x:α):List α→List α
 |[]=>[x]
 |y:: l=>if key x<key y then x::y:: l else if key y=key x then x::l else y::insK key x l
def lessK (key:α→ Int) (id:Int):List α→Nat
 |[]=>0
 |y:: l=>if key y<id then lessK key id l+1 else 0
theorem lessK_le (id:Int):∀l: List α,lessK key id l≤l.length
 |[]=>Nat.le_refl _
 |y:: l=>by unfold lessK;split<;>simp;exact lessK_le id l
theorem lessK_lo (id:Int):∀ {l:List α} (j:Nat) (h:j< l.length),j<lessK key id l→key l[j]<id
 |y:: l,0,_,hj=>by unfold lessK at hj;split at hj;assumption;omega
 |y:: l,j+1,h,hj=>by
  unfold lessK at hj
  split at hj
  ·exact lessK_lo id j (by simpa using h) (by omega)
  ·omega
theorem lessK_hi (id:Int):∀ {l:List α},l.Pairwise (fun x y=>key x<key y)→∀(j:Nat) (h:j< l.length),lessK key id l≤j→ id≤key l[j]
 |y:: l,hs,0,_,hj=>by unfold lessK at hj;split at hj;omega;simp;omega
 |y:: l,hs,j+1,h,hj=>by
  rw[List.pairwise_cons]at hs
  unfold lessK at hj
  split at hj
  ·exact lessK_hi id hs.2 j (by simpa using h) (by omega)
  ·have h2:l[j]'(by simpa using h)∈l:= List.getElem_mem _
   have:=hs.1 _ h2
   simp only[List.getElem_cons_succ]
   omega
theorem insK_none {x:α}:∀ {l:List α},(∀y,l[lessK key (key x) l]? =some y→key y≠key x)→insK key x l=l.take (lessK key (key x) l)++x:: l.drop (lessK key (key x) l)
 |[],_=>rfl
 |y:: l,h=>by
  unfold insK lessK at*
  by_cases h1:key y<key x
  ·rw[if_neg (by omega),if_neg (by omega),if_pos h1]
   simp only[if_pos h1,List.getElem?_cons_succ]at h
   rw[insK_none h];rfl
  ·simp only[if_neg h1,List.getElem?_cons_zero,Option.some.injEq,forall_eq']at h
   rw[if_pos (by omega),if_neg h1];rfl
theorem insK_some {x:α}:∀ {l:List α} {y:α},l[lessK key (key x) l]? =some y→key y=key x→insK key x l=l.set (lessK key (key x) l) x
 |y:: l,z,h,hz=>by
  unfold insK lessK at*
  by_cases h1:key y<key x
  ·rw[if_neg (by omega),if_neg (by omega),if_pos h1]
   simp only[if_pos h1,List.getElem?_cons_succ]at h
   rw[insK_some h hz];rfl
  ·simp only[if_neg h1,List.getElem?_cons_zero,Option.some.injEq]at h
   subst h
   rw[if_neg (by omega),if_pos hz,if_neg h1];rfl
 |[],_,h,_=>by simp at h
theorem mem_insK {x y:α}:∀ {l:List α},y∈insK key x l→y= x∨y∈ l
 |[],h=>by simp[insK]at h;exact .inl h
 |z:: l,h=>by
  unfold insK at h
  split at h
  ·simpa using h
  ·split at h
   ·rcases List.mem_cons.1 h with h|h
    ·exact .inl h
    ·exact .inr (List.mem_cons_of_mem _ h)
   ·rcases List.mem_cons.1 h with h|h
    ·exact .inr (by rw[h];exact List.mem_cons_self ..)
    ·exact(mem_insK h).imp id (List.mem_cons_of_mem _)
theorem insK_sorted {x:α}:∀ {l:List α},l.Pairwise (fun x y=>key x<key y)→(insK key x l).Pairwise (fun x y=>key x<key y)
 |[],_=>by simp[insK]
 |z:: l,h=>by
  rw[List.pairwise_cons]at h
  unfold insK
  split
  ·rename_i hlt
   rw[List.pairwise_cons,List.pairwise_cons]
   refine⟨fun y hy=> ?_,h⟩
   rcases List.mem_cons.1 hy with rfl|hy
   ·exact hlt
   ·have:=h.1 y hy;omega
  ·split
   ·rename_i he
    rw[List.pairwise_cons]
    exact⟨fun y hy=>by have:=h.1 y hy;omega,h.2⟩
   ·rename_i h1 h2
    rw[List.pairwise_cons]
    refine⟨fun y hy=> ?_,insK_sorted h.2⟩
    rcases mem_insK hy with rfl|hy
    ·omega
    ·exact h.1 y hy
theorem chainOk_insK {x:α} {l:List α} {a:Int} (h:chainOk key good a l=true) (hx:a< key x) (hg:good x=true):chainOk key good a (insK key x l)=true:= by
 obtain⟨h1,h2⟩:=chainOk_iff.1 h
 refine chainOk_iff.2 ⟨fun y hy=> ?_,insK_sorted h2⟩
 rcases mem_insK hy with rfl|hy
 ·exact⟨hx,hg⟩
 ·exact h1 y hy
theorem find_insK_self {x:α}:∀(l:List α),l.Pairwise (fun x y=>key x<key y)→findK key (insK key x l) (key x)=some x
 |[],_=>by simp[insK,findK]
 |z:: l,h=>by
  rw[List.pairwise_cons]at h
  unfold insK
  split
  ·simp[findK]
  ·split
   ·simp[findK]
   ·rename_i h1 h2
    have:=find_insK_self l h.2 (x:=x)
    unfold findK at this ⊢
    rw[List.find?_cons_of_neg (by simpa using h2)]
    exact this
end
structure St where
 term:Int
 stamp:Int
 next:Int
 tens:List Tenant
 leas:List Lease
 sess:List Session
 dsks:List Desk
 deriving DecidableEq
def outL:List Lease→Int→ Int
 |[],_=>0
 |x:: l,id=>(if x.tenant=id then x.size-x.spent else 0)+outL l id
theorem outL_append (l m:List Lease) (id:Int):outL (l++m) id=outL l id+outL m id:=by
 induction l with
 |nil=> simp[outL]
 |cons x l ih=>rw [List.cons_append,outL,outL,ih];omega
theorem outL_take {l:List Lease} {k:Nat} (h:k< l.length) (id:Int):outL (l.take (k+1)) id=outL (l.take k) id+(if l[k].tenant=id then l[k].size-l[k].spent else 0):=by
 rw[List.take_succ_eq_append_getElem h,outL_append];simp[outL]
def Fits (l:List Lease):Prop:= ∀x∈ l,1≤x.tenant∧ x.tenant≤16∧ 1≤x.size∧ x.size≤1000000∧ 0≤x.spent∧ x.spent≤x.size
theorem Fits.sub {l m:List Lease} (h:Fits l) (hs:∀x∈ m,x∈l):Fits m:=fun x hx=>h x (hs x hx)
theorem outL_range:∀ {l:List Lease} (id:Int),Fits l→0≤ outL l id∧outL l id≤1000000* l.length
 |[],_,_=>by simp[outL]
 |x:: l,id,h=>by
  have h1:=h x (List.mem_cons_self ..)
  have h2:=outL_range id (fun y hy=>h y (List.mem_cons_of_mem _ hy):Fits l)
  rw[outL,List.length_cons]
  split<;>omega
theorem outL_mem:∀ {l:List Lease} {x:Lease},Fits l→x∈ l→x.size- x.spent≤outL l x.tenant
 |y:: l,x,h,hx=>by
  have hl:Fits l:=fun y hy=>h y (List.mem_cons_of_mem _ hy)
  have h2:=outL_range x.tenant hl
  rw[outL]
  rcases List.mem_cons.1 hx with rfl|hx
  ·simp;omega
  ·have h3:=outL_mem hl hx
   have h1:=h y (List.mem_cons_self ..)
   split<;>omega
def leaGood (ts:List Tenant) (next:Int) (x:Lease):Bool:=
 (findT ts x.tenant).2&&decide (x.id<next∧ 1≤x.shaper∧ x.shaper≤8∧ 1≤x.epoch∧ 1≤x.number∧ 1≤x.size∧ x.size≤1000000∧ 0≤x.spent∧ x.spent<x.size)
def leasOk (ts:List Tenant) (next:Int) (ls:List Lease):Bool:= chainOk Lease.id (leaGood ts next) 0 ls
def tenRoom (ls:List Lease) (t:Tenant):Bool:= decide (0<t.bucket→ t.bucket+1000* outL ls t.id≤1000* t.burst)
def stOk (s:St):Bool:= tensOk 0 s.tens&&(leasOk s.tens s.next s.leas&&decide (s.leas.length≤64∧ 1≤s.next∧ s.next≤1099511627776))&&s.tens.all (tenRoom s.leas)
theorem findT_range {ts:List Tenant} {id:Int} (ht:tensOk 0 ts=true) (h:(findT ts id).2=true):1≤ id∧id≤ 16:=by
 rw[findT_eq id ht]at h
 cases hf:findO ts id with
 |none=> rw[hf]at h;cases h
 |some x=>
  obtain⟨h1,h2⟩:=findO_mem hf
  have h3:=(tensOk_iff.1 ht).1 x h1
  have h4:=h3.2
  unfold okT at h4
  simp only[Bool.and_eq_true,decide_eq_true_eq]at h4
  omega
theorem leasOk_fits {ts:List Tenant} {next:Int} {ls:List Lease} (ht:tensOk 0 ts=true) (h:leasOk ts next ls=true):Fits ls:=fun x hx=>by
 have:=((chainOk_iff.1 h).1 x hx).2
 unfold leaGood at this
 simp only[Bool.and_eq_true,decide_eq_true_eq]at this
 have h2:=findT_range ht this.1
 omega
def outsL (ls:List Lease):List Int:=(List.range 16).map fun i:Nat=> outL ls ((i:Int)+1)
theorem outsL_length (ls:List Lease):(outsL ls).length=16:= by simp[outsL]
def sweptS (s:St):St:= {s with tens:=sweepS s.tens (outsL s.leas)}
def creditI (b rate burst out ticks:Int):Int:= cutI (broughtI b 0 2305843009213693952+broughtI rate 0 1000000*broughtI ticks 0 1099511627776) burst out
def backI (b burst out size:Int):Int:= cutI (broughtI b 0 2305843009213693952+1000* broughtI size 0 1000000) burst out
def takeI (b size:Int):Int× Int:=if size<0∨ max b 0/1000< size then(0,170)else(b-1000* size,0)
def credT (ls:List Lease) (ticks:Int) (t:Tenant):Tenant:= if t.gone=true then t else{t with bucket:=creditI t.bucket t.rate t.burst (outL ls t.id) ticks}
def creditS (s:St) (ticks:Int):St:= if stOk s=true then sweptS {s with tens:=s.tens.map (credT s.leas ticks)}else s
def argsBad (sh ep nu sz:Int):Prop:= sh<1∨ 8<sh∨ ep<1∨ nu<1∨ sz<1∨ 1000000<sz
instance (sh ep nu sz:Int):Decidable (argsBad sh ep nu sz):=by unfold argsBad;infer_instance
def grantS (s:St) (sh ep nu te sz:Int):St× Ans:=
 if stOk s=false then(s,Ans.err 2)
 else if argsBad sh ep nu sz then(sweptS s,Ans.err 2)
 else if(findT s.tens te).2=false∨ (findT s.tens te).1.gone=true then(sweptS s,Ans.err 161)
 else if 64≤s.leas.length∨ 1099511627776≤s.next then(sweptS s,Ans.err 100)
 else if(takeI (findT s.tens te).1.bucket sz).2≠0 then(sweptS s,Ans.err (takeI (findT s.tens te).1.bucket sz).2)
 else(sweptS {s with tens:=(setS s.tens {(findT s.tens te).1 with bucket:=(takeI (findT s.tens te).1.bucket sz).1}).1,leas:=s.leas++ [⟨s.next,te,sh,ep,nu,sz,0⟩],next:=s.next+ 1},
  ⟨0,(findT s.tens te).1.rate,(findT s.tens te).1.burst,s.next,sz⟩)
def leaIs (sh ep le:Int) (x:Lease):Bool:= decide (x.id=le∧ x.shaper=sh∧ x.epoch=ep)
def dropL (le:Int) (ls:List Lease):List Lease:=ls.filter fun y=> !decide (y.id=le)
def spendL (le sp:Int) (ls:List Lease):List Lease:=ls.map fun y=>if y.id=le then{y with spent:=sp}else y
def backT (s:St) (x:Lease) (sp:Int):Tenant:= {(findT s.tens x.tenant).1 with bucket:=backI (findT s.tens x.tenant).1.bucket (findT s.tens x.tenant).1.burst (outL (dropL x.id s.leas) x.tenant) (x.size-sp)}
def reportS (s:St) (sh ep le sp:Int) (cl:Bool):St× Int:=
 if stOk s=false then(s,2)
 else match s.leas.find? (leaIs sh ep le)with
  |none=> (sweptS s,180)
  |some x=>
   if sp<x.spent∨ x.size<sp then(sweptS s,2)
   else if cl=false∧ sp<x.size then(sweptS {s with leas:=spendL le sp s.leas},0)
   else(sweptS {s with leas:=dropL le s.leas,tens:=if cl=true∧ (findT s.tens x.tenant).1.gone=false then(setS s.tens (backT s x sp)).1 else s.tens},0)
def expireS (s:St) (l:List Int):St:= if stOk s=true then sweptS {s with leas:=s.leas.filter fun x=> !l.contains x.id}else s
end Go.Proofs.YtfdmhpohfjbpfaaGreat
namespace Go.Proofs.YtfdmhpohfjbpfaaGreat
open Go.ChangeShapes Go.WideShapes Go.ChangeAt Go.RowKit
set_option maxRecDepth 100000
section
variable {P:Program} {e:TypeId} {α:Type}
theorem run_copy_whole (L:Lay P e α) {t:TypeId} (ht:P.underlying t=some (.slice e)) (ty:TypeId) (w:World) (g o:Nat) (A M R cs:List Value) (te:TypeId) (hg:w.heap[g]? =some (.cells (A++(M++R)).toArray te (0,0))) (ho:A.length= o)
 (hM:M.length= cs.length) (h1:∀u∈ cs,u.oneCell'=true) (dn dc sn sc m:Nat) (sp:Addr) (hm:Nat.min sn dn=m) (hl:cs.length= m*L.size) (hsrc:∀j v,cs[j]? =some v→w.cell? (sp.add j)=some v):
 (Builtin.copy_ #[t,t] ty #[.slice (some ⟨g,o,none⟩) dn dc,.slice (some sp) sn sc]).run P w= .ok (goInt m) (w.setRow g (A++(cs++R)).toArray):=by
 obtain⟨i,z,h2,_,h3,_⟩:=L.parts
 have hsz:(sizeOf e).run P w= .ok L.size w:=by simp[sizeOf,typeInfo,h2,h3]
 have hfc:=run_firstCells_some (P:=P) (w:=w) L.size m sp sn sc cs hl hsrc
 have hst:=run_storeCells_at (P:=P) g o te cs 0 (A++(M++R)).toArray w hg (by simp;omega) h1
 have hrow:((A++(M++R)).toArray.toList.take (o+0)++cs++ (A++(M++R)).toArray.toList.drop (o+0+ cs.length))=A++ (cs++R):=by
  rw[List.toList_toArray,Nat.add_zero,←ho,List.take_left,←hM,←List.drop_drop,List.drop_left,List.drop_left,List.append_assoc]
 rw[hrow]at hst
 simp only[Builtin.copy_]
 simp[run_underlying ht,Builtin.lenOf,hm,hsz,hfc,hst]
theorem below_setRow' {B g:Nat} {w0 w:World} (hb:Below B w0 w) (hBg:B≤ g) (cs:Array Value):Below B w0 (w.setRow g cs):=
 hb.trans ⟨rfl,rfl,rfl,by simp[World.setRow],fun k hk=>setRow_other w g k cs (by omega)⟩
theorem wpList_copy_whole {ops:Array Oper} {rest:List Oper} {op:Oper} {a:Act} {w:World} {Q:Exit→ Act→World→ Prop} (L:Lay P e α) {t:TypeId} (ht:P.underlying t=some (.slice e)) (hgd:op.guard= none) (d s:Operand)
 (ho:op.op= .call {callee:= .builtin .copy,args:= #[d,s],argTypes:= #[t,t]}) (g o:Nat) (A M R cs:List Value) (te:TypeId) (hg:w.heap[g]? =some (.cells (A++(M++R)).toArray te (0,0))) (hoA:A.length= o)
 (hM:M.length= cs.length) (h1:∀u∈ cs,u.oneCell'=true) (dn dc sn sc m:Nat) (sp:Addr) (hm:Nat.min sn dn=m) (hl:cs.length= m*L.size) (hsrc:∀j v,cs[j]? =some v→w.cell? (sp.add j)=some v)
 (hd:a.eval d= .slice (some ⟨g,o,none⟩) dn dc) (hs:a.eval s= .slice (some sp) sn sc)
 (h:∀w',w'.heap[g]? =some (.cells (A++(cs++R)).toArray te (0,0))→(∀B,B≤g→ Below B w w')→(∀k,k≠g→ w'.heap[k]? =w.heap[k]?)→w'.heap.size= w.heap.size→wpList P ops Q rest (a.put op.dst (goInt m)) w'):wpList P ops Q (op::rest) a w:=
 wpList_plain hgd fun K hK=>by
  have hrun:=run_copy_whole L ht op.type w g o A M R cs te hg hoA hM h1 dn dc sn sc m sp hm hl hsrc
  unfold Oper.wp execOp
  simp only[ho,resolve,invoke,builtin,Sem.run_bind,Sem.run_pure,Result.andThen_ok,List.map_toArray,List.map_cons,List.map_nil,hd,hs,hrun]
  exact hK _ _ (h _ (setRow_heap w g _ _ te _ hg) (fun B hB=>below_setRow' (Below.refl _ _) hB _) (fun k hk=>setRow_other w g k _ hk) (by simp[World.setRow]))
theorem run_append_zeros (L:Lay P e α) {t tn:TypeId} (ht:P.underlying t=some (.slice e)) (htn:P.underlying tn=some (.int .i64)) (ty:TypeId) (w:World) (b o i c k:Nat) (A:List Value) (hA:A.length= i*L.size)
 (hsrc:∀j v,A[j]? =some v→w.cell? ⟨b,o+j,none⟩=some v) (hk:0< k) (hg:c< i+k) (hby:(i+k)*L.bytes≤ 140737488355328):
 ∃w' g' c' Z,(Builtin.append_ #[t,tn] ty #[.slice (some ⟨b,o,none⟩) i c,.int .i64 k]).run P w= .ok (.slice (some ⟨g',0,none⟩) (i+k) c') w'∧g'= w.heap.size∧i+ k≤c'∧ c'≤maxLen∧
  w'.heap[g']? =some (.cells (A++Z).toArray e (0,0))∧(A++Z).length=c'* L.size∧Below w.heap.size w w'∧w'.heap.size= w.heap.size+1:= by
 obtain⟨ti,z,h1,h2,h3,h4,h5,_⟩:=L.parts
 have hb:=L.bpos
 have hsmall:i+ k≤140737488355328:= Nat.le_trans (Nat.le_mul_of_pos_right _ hb) hby
 have hold:(Builtin.firstCells ti.size i (.slice (some ⟨b,o,none⟩) i c)).run P w.drew= .ok A.toArray w.drew:=by
  rw[h3]
  exact run_firstCells_some (P:=P) (w:=w.drew) L.size i ⟨b,o,none⟩ i c A hA (fun j v hj=>by rw[Addr.add_mid];exact hsrc j v hj)
 have hrun:=Lib.run_append_grow_zeros (P:=P) w t tn ty e ti z .i64 .i64 ht htn h1 h2 (some ⟨b,o,none⟩) i c A hold k hk (by rw[h3];exact L.pos) hg (by omega)
  (by rw[h4];have:k* L.bytes≤(i+k)*L.bytes:= Nat.mul_le_mul_right _ (by omega);omega) (by rw[h4];exact growslice_fits hg hby)
 have hle:i+ k≤grownCap w (i+k) c e:=by simp[grownCap,Question.cut]
 have hmax:=grownCap_le_maxLen w (i+k) c e (by unfold maxLen;omega)
 refine⟨_,w.heap.size,grownCap w (i+k) c e,(Builtin.zeroCells z.cells k++Builtin.zeroCells z.cells (grownCap w (i+k) c e-(i+k))).toList,hrun,rfl,hle,hmax,?_,?_,?_,?_⟩
 ·have:=heap_alloc_new w.drew (.cells (A.toArray++Builtin.zeroCells z.cells k++Builtin.zeroCells z.cells (grownCap w (i+k) c e-(i+k))) e)
  have h6:w.drew.heap.size= w.heap.size:=rfl
  rw[h6]at this
  rw[this]
  congr 2
  simp
 ·simp[size_zeroCells,h5,hA]
  rw[←Nat.add_mul,←Nat.add_mul]
  congr 1
  omega
 ·exact((Below.refl w.heap.size w).drew).alloc (Nat.le_refl _) _
 ·simp
theorem wpList_load_as {ops:Array Oper} {rest:List Oper} {op:Oper} {a:Act} {w:World} {Q:Exit→ Act→World→ Prop} (L:Lay P e α) (hgd:op.guard= none) (x:Operand) (ho:op.op= .load e x)
 (b o:Nat) (hx:a.eval x= .pointer (some ⟨b,o,none⟩)) (y:α) (v:Value) (hv:L.val y=v) (hc:w.rangeAt b o (L.cells y)) (h:wpList P ops Q rest (a.put op.dst v) w):wpList P ops Q (op::rest) a w:=by
 subst hv
 exact wpList_load_lay L hgd x ho b o hx y hc h
theorem wpList_store_there {ops:Array Oper} {rest:List Oper} {op:Oper} {a:Act} {w:World} {Q:Exit→ Act→World→ Prop} (L:Lay P e α) (hgd:op.guard= none) (x y:Operand) (ho:op.op= .store e x y)
 (b o:Nat) (z:α) (hx:a.eval x= .pointer (some ⟨b,o,none⟩)) (hy:a.eval y=L.val z) (ht:w.there b o L.size)
 (h:∀w',w'.rangeAt b o (L.cells z)→w'.there b o L.size→(∀B,B≤b→ Below B w w')→w'.heap.size= w.heap.size→wpList P ops Q rest (a.put op.dst undef) w'):wpList P ops Q (op::rest) a w:=
 wpList_store_lay L hgd x y ho b o z hx hy ht (h _ (range_put z ht) (World.there_setCells ht _ _ _) (fun _ hB=>Below.setCells hB _ _ (Below.refl _ _)) (setCells_size _ _ _ _))
theorem box_there {w w':World} {cs:Array Value} {t:TypeId} (hb:Below (w.alloc (.cells cs t)).heap.size (w.alloc (.cells cs t)) w'):w'.there w.heap.size 0 cs.size:=
 there_below (there_new w cs t) hb (by simp)
theorem box_range {w w':World} {cs:List Value} {t:TypeId} (hb:Below (w.alloc (.cells cs.toArray t)).heap.size (w.alloc (.cells cs.toArray t)) w'):w'.rangeAt w.heap.size 0 cs:=fun j v hv=>by
 rw[Nat.zero_add,own_cells hb j,List.getElem?_toArray,hv]
theorem Can.alloc {w:World} {B:Nat} {t:TypeId} {size:Nat} {a:Option Addr} {n c:Nat} {xs:List Value} (h:Can w B t size a n c xs) (o:Obj):Can (w.alloc o) B t size a n c xs:=
 ⟨h.1,h.2.1,h.2.2.imp (fun⟨h1,h2⟩=>⟨h1,Row.alloc h2 o⟩) (fun h=>h.alloc o)⟩
theorem own_whole {L:Lay P e α} {w:World} {B g n c:Nat} {A:List Value} (h:w.ownsRow B e L.size (.slice (some ⟨g,0,none⟩) n c) n A):B≤ g∧n≤ c∧c≤ maxLen∧A.length= n*L.size∧ ∃D,w.heap[g]? =some (.cells (A++D).toArray e (0,0))∧(A++D).length=c* L.size:=by
 obtain⟨hl,h⟩:=h
 rcases h with⟨hv,_⟩|⟨g',cap,cur,hv,hB,hg,hnc,hm,hs,ht⟩
 ·cases hv
 ·simp only[Value.slice.injEq,Option.some.injEq,Addr.mk.injEq,and_true]at hv
  obtain⟨rfl,_,rfl⟩:=hv
  refine⟨hB,hnc,hm,hl,cur.toList.drop (n*L.size),?_,?_⟩
  ·rw[←ht,List.take_append_drop];simpa using hg
  ·rw[←ht,List.take_append_drop];simpa using hs
theorem own_of_whole {L:Lay P e α} {w:World} {B g n c:Nat} {A D:List Value} (hB:B≤ g) (hnc:n≤ c) (hm:c≤ maxLen) (hA:A.length= n*L.size) (hg:w.heap[g]? =some (.cells (A++D).toArray e (0,0))) (hs:(A++D).length=c* L.size):
 w.ownsRow B e L.size (.slice (some ⟨g,0,none⟩) n c) n A:=
 ⟨hA,.inr ⟨g,c,(A++D).toArray,rfl,hB,hg,hnc,hm,by simpa using hs,by rw[List.toList_toArray,←hA,List.take_left]⟩⟩
end
end Go.Proofs.YtfdmhpohfjbpfaaGreat
namespace Go.Proofs.YtfdmhpohfjbpfaaGreat
open Go.ChangeShapes Go.WideShapes Go.ChangeAt Go.RowKit Go.Maps
set_option maxRecDepth 100000
structure KeyKind (P:Program) (k:TypeId) (κ:Type) where
 keyed:Keyed P k
 enc:κ→ Value
 kl:κ→ Lit
 good:κ→ Prop
 key:∀x,good x→keyOf P k (enc x)=some (kl x)
 inj:∀x y,enc x=enc y→x= y
section
variable {P:Program} {k e:TypeId} {κ:Type} {K:KeyKind P k κ}
theorem KeyKind.same (K:KeyKind P k κ) {x y:κ} (hx:K.good x) (hy:K.good y) (h:K.kl x=K.kl y):x= y:=
 K.inj x y (K.keyed.inj (K.key x hx) (by rw[K.key y hy,h]))
theorem KeyKind.isKey (K:KeyKind P k κ) {x:κ} (hx:K.good x):WideAt.IsKeyLit (K.kl x):=K.keyed.key (K.key x hx)
def MapI (K:KeyKind P k κ) (e:TypeId) (w:World) (b n:Nat) (f:κ→ Option Int):Prop:=
 ∃D: DataW Unit,w.ownsMap P k (plainElem P e) b n D∧∀x,K.good x→D.atKey (K.kl x) (.lit (.int .i64 0))= .lit (.int .i64 ((f x).getD 0))∧Maps.has D (K.kl x)=(f x).isSome
def upd [DecidableEq κ] (f:κ→ Option Int) (x:κ) (z:Int):κ→ Option Int:=fun y=>if y=x then some z else f y
theorem MapI.made (w:World):MapI K e (w.alloc (.map #[] 0)) w.heap.size 0 (fun _=>none):=
 ⟨.map [],World.ownsMap_made _ _ _ _,fun _ _=>⟨rfl,rfl⟩⟩
theorem MapI.below {w w':World} {b n B:Nat} {f:κ→ Option Int} (h:MapI K e w b n f) (hb:Below B w w') (hB:b< B):MapI K e w' b n f:=by
 obtain⟨D,⟨es,clock,h1,h2⟩,hf⟩:=h
 exact⟨D,⟨es,clock,by rw[hb.block b hB];exact h1,h2⟩,hf⟩
theorem MapI.lt {w:World} {b n:Nat} {f:κ→ Option Int} (h:MapI K e w b n f):b< w.heap.size:=by
 obtain⟨D,⟨es,clock,h1,_⟩,_⟩:=h
 exact(Array.getElem?_eq_some_iff.1 h1).1
theorem MapI.mono {w:World} {b n m:Nat} {f:κ→ Option Int} (h:MapI K e w b n f) (hn:n≤ m):MapI K e w b m f:=
 let ⟨D,h1,h2⟩:=h;⟨D,h1.mono hn,h2⟩
theorem MapI.setFar {w:World} {b n:Nat} {f:κ→ Option Int} (h:MapI K e w b n f) {p:Addr} (hp:p.block≠ b) (v:Value):MapI K e (w.setCell p v) b n f:=by
 obtain⟨D,⟨es,clock,h1,h2⟩,hf⟩:=h
 exact⟨D,⟨es,clock,by rw[Below.heap_setCell _ _ _ _ (fun h=>hp h.symm)];exact h1,h2⟩,hf⟩
theorem MapI.alloc {w:World} {b n:Nat} {f:κ→ Option Int} (h:MapI K e w b n f) (o:Obj):MapI K e (w.alloc o) b n f:=
 h.below ((Below.refl w.heap.size w).alloc (Nat.le_refl _) o) h.lt
theorem MapI.grown {w w':World} {b n b0:Nat} {f:κ→ Option Int} (h:MapI K e w b n f) (hg:w.grownBy w' (some b0)) (hne:b≠ b0):MapI K e w' b n f:=by
 have hlt:=h.lt
 obtain⟨D,⟨es,clock,h1,h2⟩,hf⟩:=h
 exact⟨D,⟨es,clock,by rw[hg.block b hlt (by simp;omega)];exact h1,h2⟩,hf⟩
theorem wpList_putI [DecidableEq κ] {w:World} {ops:Array Oper} {rest:List Oper} {o:Oper} {a:Act} {Q:Exit→ Act→World→ Prop} (K:KeyKind P k κ) {t:TypeId} (ht:P.underlying t=some (.map k e)) (he:P.underlying e=some (.int .i64)) (hg:o.guard= none)
 (m x v:Operand) (hop:o.op= Op.mapUpdate t m x v) (b n:Nat) (f:κ→ Option Int) (hm:a.eval m= .map (some b)) (hown:MapI K e w b n f) (hn:n< maxLen) (y:κ) (hy:K.good y) (hx:a.eval x=K.enc y) (z:Int) (hv:a.eval v= .int .i64 z)
 (hz:(Lit.int .i64 z).wf=true) (h:∀w',MapI K e w' b (n+1) (upd f y z)→w.grownBy w' (some b)→wpList P ops Q rest (a.put o.dst undef) w'):wpList P ops Q (o::rest) a w:=by
 obtain⟨D,hD,hf⟩:=hown
 refine wpList_mapUpdate_own w hg m x v t hop k e K.keyed ht (plainElem P e) b n D hm hD hn _ _ (K.kl y) hx hv (K.key y hy) (.lit (.int .i64 z)) [] (plainElem_int he hz) ?_
 intro w' hD' hg'
 refine h w' ⟨_,hD',fun y' hy'=> ?_⟩ hg'
 have hmap:IsMap D:=by
  obtain⟨es,clock,_,_,_,rfl⟩:=hD
  exact⟨_,rfl⟩
 unfold upd
 by_cases e:y'= y
 ·subst e
  rw[if_pos rfl]
  exact⟨atKey_put_same hmap (K.isKey hy) _ _,has_put_same hmap (K.isKey hy) _⟩
 ·have hne:K.kl y'≠K.kl y:=fun h=>e (K.same hy' hy h)
  rw[if_neg e,atKey_put_other hne,has_put_other hne]
  exact hf y' hy'
theorem wpList_getOkI {w:World} {ops:Array Oper} {rest:List Oper} {o:Oper} {a:Act} {Q:Exit→ Act→World→ Prop} (K:KeyKind P k κ) {t:TypeId} (ht:P.underlying t=some (.map k e)) (he:P.underlying e=some (.int .i64)) (hz:∀w,(zeroValue e).run P w= .ok (.int .i64 0) w) (hg:o.guard= none)
 (m x:Operand) (hop:o.op= Op.lookup t m x true) (b n:Nat) (f:κ→ Option Int) (hm:a.eval m= .map (some b)) (hown:MapI K e w b n f) (y:κ) (hy:K.good y) (hx:a.eval x=K.enc y)
 (h:wpList P ops Q rest (a.put o.dst (.tuple #[.int .i64 ((f y).getD 0),.bool (f y).isSome])) w):wpList P ops Q (o::rest) a w:=by
 obtain⟨D,hD,hf⟩:=hown
 obtain⟨h1,h2⟩:=hf y hy
 refine wpList_lookup_own_ok_int w hg m x t hop k e .i64 K.keyed ht he (hz w) b n D hm hD _ (K.kl y) hx (K.key y hy) ?_
 intro c hc _
 rw[h1]at hc
 simp only[DataW.lit.injEq,Lit.int.injEq,true_and]at hc
 rw[h2,←hc]
 exact h
theorem wpList_getI {w:World} {ops:Array Oper} {rest:List Oper} {o:Oper} {a:Act} {Q:Exit→ Act→World→ Prop} (K:KeyKind P k κ) {t:TypeId} (ht:P.underlying t=some (.map k e)) (he:P.underlying e=some (.int .i64)) (hz:∀w,(zeroValue e).run P w= .ok (.int .i64 0) w) (hg:o.guard= none)
 (m x:Operand) (hop:o.op= Op.lookup t m x false) (b n:Nat) (f:κ→ Option Int) (hm:a.eval m= .map (some b)) (hown:MapI K e w b n f) (y:κ) (hy:K.good y) (hx:a.eval x=K.enc y)
 (h:wpList P ops Q rest (a.put o.dst (.int .i64 ((f y).getD 0))) w):wpList P ops Q (o::rest) a w:=by
 obtain⟨D,hD,hf⟩:=hown
 obtain⟨h1,_⟩:=hf y hy
 refine wpList_lookup_own_int w hg m x t hop k e .i64 K.keyed ht he (hz w) b n D hm hD _ (K.kl y) hx (K.key y hy) ?_
 intro c hc _
 rw[h1]at hc
 simp only[DataW.lit.injEq,Lit.int.injEq,true_and]at hc
 rw[←hc]
 exact h
end
theorem keyOf_struct1 {P : Program} {k e : TypeId} {q : IntKind} {f : Field} (hu : P.underlying k = some (.struct #[f])) (hf : f.type = e) (ho : f.offset = 0) (hn : (f.name != "_") = true) (h1 : P.cellsOf k = 1) (h2 : P.cellsOf e = 1) (hkt : P.keyType k = true) (he : P.underlying e = some (.int q)) (hsz : ∃ m, P.types.size = m + 1) {a : Int} (wa : (Lit.int q a).wf = true) :
 keyOf P k (.agg #[.int q a])=some (.string (keyBytes [.int q a])):=by
 obtain⟨m,hm⟩:=hsz
 unfold keyOf
 simp only[hu]
 rw[if_pos (by simp[hkt,Value.formed,hu,h1]),hm]
 unfold Program.keyLits
 simp only[hu,Value.cells]
 rw[if_pos (by simp[h1,hn])]
 simp[hf,ho,h2,Program.keyLits,he,wa]
end Go.Proofs.YtfdmhpohfjbpfaaGreat
