import Derived.Laws.Externs
import Derived.Lib.Overlaps
import Derived.Lib.AppendZerosOnto
import Derived.Maps.OwnOps
import Derived.Maps.OwnSet
import Derived.WideKeyPair
import Derived.DeepKeys4
import Derived.WalkArith
import Derived.Test.YtfdmhpohfjbpfaaGreatSr03
set_option linter.unusedVariables false
set_option linter.unusedSimpArgs false
namespace Go.Proofs.YtfdmhpohfjbpfaaGreat
open Go.ChangeShapes Go.WideShapes Go.ChangeAt Go.RowKit
set_option maxRecDepth 100000
set_option maxHeartbeats 16000000
def qy(outs:List Int)(id:Int):Int:= outs.getD (id-1).toNat 0
def kT(outs:List Int)(x:aj):Bool:= x.gone&&decide (qy outs x.id≤0)
def jB(ts:List aj)(outs:List Int):List aj:=if aZ 0 ts=true then ts.filter (fun x=> !kT outs x)else ts
theorem CZ{outs:List Int}{id:Int}(h:(outs.length:Int)<id):qy outs id=0:= by
 unfold qy;rw[List.getD_eq_getElem?_getD,List.getElem?_eq_none o_];rfl
theorem Gt{outs:List Int}{id:Int}(h1:1≤ id)(h:id≤ (outs.length:Int)):∃k: Nat,k<outs.length∧ id-1= k∧outs[k]? =some (qy outs id):=by
 refine⟨(id-1).toNat,by omega,by omega,?_⟩;unfold qy;rw[List.getD_eq_getElem?_getD,List.getElem?_eq_getElem o_];rfl
theorem sY(ts:List aj)(outs:List Int):(jB ts outs).length≤ts.length:= by
 unfold jB;split
 ·exact List.length_filter_le _ _
 ·exact Nat.le_refl _
theorem Ju(x:aj)(outs:List Int)(bl:Nat)(a:Option Addr)(n c:Nat)(w:World)(hn:outs.length= n)(hl:n≤ 1000)(h1:1≤ x.id)(hc:w.cell? ⟨bl,0,none⟩=some (.slice a n c))(hr:Row w a (outs.map (Value.int .i64))):
 Calls Tryz.prog 150 #[x.agg,.pointer (some ⟨bl,0,none⟩)] w fun e w'=>e= .returned (.bool (kT outs x))∧Below w.heap.size w w':=by
 subst hn;obtain⟨id,aK,aq,bucket,gone⟩:=x;simp only at h1;have hlt:=World.block_lt_of_cell? w _ hc;simp only at hlt;cases gone
 ·go_enter Tryz.func150,Tryz.ntmps150;go_wp2;go_returns;exact⟨bZ (by simp[kT]),by go_grown⟩
 ·by_cases FL:(outs.length:Int)<id
  ·have HF:=h_ (CZ FL);go_enter Tryz.func150,Tryz.ntmps150;go_wp2;go_returns;exact⟨bZ (by unfold kT;simp only;rw[HF.out];rfl),by go_grown⟩
  ·obtain⟨k,hk,hk2,hk3⟩:=Gt (outs:=outs) h1 o_;obtain⟨b,o,rfl,hcell⟩:=Row.jH hr (k:=k) (by rw[List.getElem?_map,hk3];rfl);have hcl:=hcell _ ((Below.refl w.heap.size w).alloc n_ (.cells (gW id aK aq bucket true) 75));obtain rfl:id= k+1:= o_;generalize hov:qy outs (k+1)=ov at hcl;have HOV:=h_ hov;clear hcell hk3 hov hk2 h1;go_enter Tryz.func150,Tryz.ntmps150;go_wp2;go_returns;exact⟨bZ (by unfold kT;simp only;rw[HOV.out];simp),by go_grown⟩
theorem DR(args:Array Value)(w:World):(callFunc 150 args).run Tryz.prog w= .ok (.enter 150 args) w:=k_
theorem Ml(ts:List aj)(outs:List Int)(a b:Option Addr)(n c m d:Nat)(w:World)(hn:ts.length= n)(hm:outs.length= m)(hl:ts.length≤ 900)(hlo:m≤ 1000)(hc:a= none→c= 0)(hnc:n≤ c)(hr:dK w a ts)(hro:Row w b (outs.map (Value.int .i64))):
 Calls Tryz.prog 97 (vs2 a n c b m d) w (KI w a (jB ts outs)):=by
 subst hn;have hmax:ts.length≤ maxLen:=bD o_;have HS:Hid (jB ts outs=if aZ 0 ts=true then ts.filter (fun x=> !kT outs x)else ts):=rfl;generalize jB ts outs=res at HS ⊢;have fI:(w.alloc (.cells #[.slice b m d] 52)).cell? ⟨w.heap.size,0,none⟩=some (.slice b m d):=World.cell?_alloc_at _ _ _ 0 rfl;cases h1:aZ 0 ts with
 |false=>
  have H1:=h_ h1;have HO:Hid (res=ts):=by rw[HS.out,if_neg (by rw[h1];simp)];exact rfl
  clear h1 HS fI;go_enter Tryz.func97,Tryz.ntmps97;go_wp2_with(first|(go_at_call 76;((with_reducible refine(dJ ts a _ _ _ rfl hmax (hr.below aH)).mono ?_);rw[H1.out];rintro e w3 ⟨rfl,hb3⟩)));go_returns;exact⟨a,c,by rw[HO.out];rfl,by rw[HO.out];exact hnc,hc,cg.self _ _,by rw[HO.out];exact hr.below aH,aH⟩
 |true=>
  have H1:=h_ h1;have yG:Hid (∀x∈ ts,1≤x.id):=fun x hx=>by have:=ui h1 x hx;omega
  have HO:Hid (res=ts.filter (fun x=> !kT outs x)):=by rw[HS.out,if_pos h1];exact rfl
  have cT:=h_ fI;clear h1 HS fI;have qp:=DR;by_cases h0:ts= []
  ·subst h0;go_enter Tryz.func97,Tryz.ntmps97;go_wp2_with(first|(go_at_call 76;((with_reducible refine(dJ [] a 0 _ _ rfl (Nat.zero_le _) (Row.nil _ _)).mono ?_);rw[H1.out];rintro e w3 ⟨rfl,hb3⟩))|(go_at_call 98;((with_reducible refine(wq [] a 0 _ _ rfl (by simp) hc (Nat.zero_le _) (Row.nil _ _)).mono ?_);rintro e w4 ⟨a4,c4,rfl,zW,qo,_,hb4⟩))|(go_at_call 149;((with_reducible refine(wu a4 c4 _ _ _ qp).mono ?_);rintro e w5 ⟨rfl,cv⟩)));go_returns;exact⟨a4,c4,by rw[HO.out];rfl,by rw[HO.out];exact qo.le,qo.none d_,(zW.mono XY).trans' _,by rw[HO.out];exact .inl rfl,aH⟩
  ·go_enter Tryz.func97,Tryz.ntmps97;go_wp2_with(first|(go_at_call 76;((with_reducible refine(dJ ts a _ _ _ rfl hmax (hr.below aH)).mono ?_);rw[H1.out];rintro e w3 ⟨rfl,hb3⟩))|(go_at_call 98;((with_reducible refine(wq ts a _ _ _ rfl o_ hc hnc (hr.below aH)).mono ?_);rintro e w4 ⟨a4,c4,rfl,zW,qo,eG,hb4⟩;obtain⟨g4,rfl,hB4,ab1⟩:=iM (eG h0) (by cases ts with|nil=> exact absurd rfl h0|cons=> simp);have ER:=h_ (dM.pV (L:=aT) (eG h0));have hs3:=hb3.size))|(go_at_call 149;((with_reducible refine(BH ts w3.heap.size g4 _ c4 _ _ (kT outs) _ rfl qo.le ab1 ER.out hb4.size qp (fun x hx w' hb'=>Ju x outs _ b _ d w' hm hlo (yG.out x hx) (((hb4.trans hb').cell (p:=⟨w.heap.size,0,none⟩) (by simp at hs3;show w.heap.size<_;omega)).trans ((hb3.cell (p:=⟨w.heap.size,0,none⟩) (by simp)).trans cT.out)) ((Row.below (Row.below (Row.alloc hro _) hb3) (hb4.trans hb'))))).mono ?_);rintro e w5 ⟨rfl,sL,cv⟩;have qH:=hb4.trans cv)));go_returns;have hle:=List.length_filter_le (fun x=> !kT outs x) ts;have afT:=qo.le;exact⟨some ⟨g4,0,none⟩,c4,by rw[HO.out];rfl,by rw[HO.out];omega,(fun h=>by cases h),(fun b' o' s' h'=>by simp at h';left;obtain⟨rfl,rfl,rfl⟩:=h';simp at hs3;omega),by rw[HO.out];exact sL,aH⟩
end Go.Proofs.YtfdmhpohfjbpfaaGreat
namespace Go.Proofs.YtfdmhpohfjbpfaaGreat
set_option maxHeartbeats 16000000
section
variable {α:Type} {key:α→ Int} {good:α→ Bool}
def eU(key:α→ Int)(good:α→ Bool):Int→ List α→Bool
 |_,[]=>true
 |a,x::l=> decide (a<key x)&&good x&&eU key good (key x) l
def cU(key:α→ Int)(a:Int)(l:List α):Int:= match l.getLast? with|some x=>key x|none=> a
theorem jt{l:List α}{k:Nat}{a:Int}(h:k< l.length):cU key a (l.take (k+1))=key l[k]:=by
 unfold cU;rw[List.take_succ_eq_append_getElem h,List.getLast?_concat]
theorem mP:∀(l m:List α) (a:Int),eU key good a (l++m)=(eU key good a l&&eU key good (cU key a l) m)
 |[],m,a=>by simp[eU,cU]
 |x:: l,m,a=>by
  have e:cU key a (x::l)=cU key (key x) l:=by
   unfold cU;cases l with
   |nil=> simp
   |cons y l=>
    rw[List.getLast?_cons_cons];cases h:(y::l).getLast? with
    |none=> simp at h
    |some z=>rfl
  rw[List.cons_append,eU,eU,mP l m,e];simp only[Bool.and_assoc]
theorem mv{l:List α}{k:Nat}{a:Int}(h:k< l.length):eU key good a (l.take (k+1))=(eU key good a (l.take k)&&(decide (cU key a (l.take k)<key l[k])&&good l[k])):=by
 rw[List.take_succ_eq_append_getElem h,mP];simp[eU]
theorem rh{l:List α}{k:Nat}{a:Int}(h:k< l.length)(hb:(decide (cU key a (l.take k)<key l[k])&&good l[k])=false):eU key good a l=false:= by
 have h1:eU key good a (l.take (k+1))=false:= by rw[mv h,hb,Bool.and_false]
 have h2:=mP (key:=key) (good:=good) (l.take (k+1)) (l.drop (k+1)) a;rw[List.take_append_drop,h1,Bool.false_and]at h2;exact h2
theorem ck:∀ {l:List α} {a:Int},eU key good a l=true↔ (∀x∈ l,a<key x∧good x=true)∧l.Pairwise (fun x y=>key x<key y)
 |[],a=>by simp[eU]
 |y:: l,a=>by
  rw[eU,Bool.and_eq_true,Bool.and_eq_true,decide_eq_true_eq,ck,List.pairwise_cons];constructor
  ·rintro⟨⟨h1,h2⟩,h3,h4⟩;refine⟨fun x hx=> ?_,fun x hx=>(h3 x hx).1,h4⟩;rcases List.mem_cons.1 hx with rfl|hx
   ·exact⟨h1,h2⟩
   ·have:=h3 x hx;exact⟨by omega,this.2⟩
  ·rintro⟨h1,h2,h3⟩;exact⟨h1 y (List.mem_cons_self ..),fun x hx=>⟨h2 x hx,(h1 x (List.mem_cons_of_mem _ hx)).2⟩,h3⟩
theorem pT{l:List α}{a:Int}(h:eU key good a l=true):a≤ cU key a l:=by
 unfold cU;cases hl:l.getLast? with
 |none=> exact Int.le_refl _
 |some x=>have:= ((ck.1 h).1 x (List.mem_of_getLast? hl)).1;simp only;omega
def fN(key:α→ Int)(l:List α)(id:Int):Option α:=l.find? (fun x=>key x==id)
theorem wD{l:List α}{id:Int}{x:α}(h:fN key l id=some x):x∈ l∧key x=id:=
 ⟨List.mem_of_find?_eq_some h,by simpa using List.find?_some h⟩
theorem zN{l:List α}{id:Int}{k:Nat}(hs:l.Pairwise (fun x y=>key x<key y))(hk:k< l.length)(h:key l[k]=id):fN key l id=some l[k]:=by
 unfold fN;rw[List.find?_eq_some_iff_getElem];refine⟨by simpa using h,k,hk,rfl,fun j hj=> ?_⟩;have:=(List.pairwise_iff_getElem.1 hs) j k o_ hk hj;simp;omega
theorem tR{l:List α}{id:Int}(h:∀j (hj:j< l.length),key l[j]≠id):fN key l id=none:= by
 unfold fN;rw[List.find?_eq_none];intro x hx;obtain⟨j,hj,rfl⟩:=List.mem_iff_getElem.1 hx;simpa using h j hj
def iw(key:α→ Int)(x:α):List α→List α
 |[]=>[x]
 |y:: l=>if key x<key y then x::y:: l else if key y=key x then x::l else y::iw key x l
def gw(key:α→ Int)(id:Int):List α→Nat
 |[]=>0
 |y:: l=>if key y<id then gw key id l+1 else 0
theorem Ak(id:Int):∀l: List α,gw key id l≤l.length
 |[]=>Nat.le_refl _
 |y:: l=>by unfold gw;split<;>simp;exact Ak id l
theorem uU(id:Int):∀ {l:List α} (j:Nat) (h:j< l.length),j<gw key id l→key l[j]<id
 |y:: l,0,_,hj=>by unfold gw at hj;split at hj;assumption;omega
 |y:: l,j+1,h,hj=>by
  unfold gw at hj
  split at hj
  ·exact uU id j (by simpa using h) o_
  ·omega
theorem uT(id:Int):∀ {l:List α},l.Pairwise (fun x y=>key x<key y)→∀(j:Nat) (h:j< l.length),gw key id l≤j→ id≤key l[j]
 |y:: l,hs,0,_,hj=>by unfold gw at hj;split at hj;omega;simp;omega
 |y:: l,hs,j+1,h,hj=>by
  rw[List.pairwise_cons]at hs;unfold gw at hj
  split at hj
  ·exact uT id hs.2 j (by simpa using h) o_
  ·have h2:l[j]'(by simpa using h)∈l:= List.getElem_mem _;have:=hs.1 _ h2;simp only[List.getElem_cons_succ];omega
theorem wL{x:α}:∀ {l:List α},(∀y,l[gw key (key x) l]? =some y→key y≠key x)→iw key x l=l.take (gw key (key x) l)++x:: l.drop (gw key (key x) l)
 |[],_=>rfl
 |y:: l,h=>by
  unfold iw gw at*;by_cases h1:key y<key x
  ·rw[if_neg o_,if_neg o_,if_pos h1];simp only[if_pos h1,List.getElem?_cons_succ]at h;rw[wL h];rfl
  ·simp only[if_neg h1,List.getElem?_cons_zero,Option.some.injEq,forall_eq']at h;rw[if_pos o_,if_neg h1];rfl
theorem wM{x:α}:∀ {l:List α} {y:α},l[gw key (key x) l]? =some y→key y=key x→iw key x l=l.set (gw key (key x) l) x
 |y:: l,z,h,hz=>by
  unfold iw gw at*;by_cases h1:key y<key x
  ·rw[if_neg o_,if_neg o_,if_pos h1];simp only[if_pos h1,List.getElem?_cons_succ]at h;rw[wM h hz];rfl
  ·simp only[if_neg h1,List.getElem?_cons_zero,Option.some.injEq]at h;subst h;rw[if_neg o_,if_pos hz,if_neg h1];rfl
 |[],_,h,_=>by simp at h
theorem Am{x y:α}:∀ {l:List α},y∈iw key x l→y= x∨y∈ l
 |[],h=>by simp[iw]at h;exact .inl h
 |z:: l,h=>by
  unfold iw at h
  split at h
  ·simpa using h
  ·split at h
   ·rcases List.mem_cons.1 h with h|h
    ·exact .inl h
    ·exact .inr (List.mem_cons_of_mem _ h)
   ·rcases List.mem_cons.1 h with h|h
    ·exact .inr (by rw[h];exact List.mem_cons_self ..)
    ·exact(Am h).imp id (List.mem_cons_of_mem _)
theorem xE{x:α}:∀ {l:List α},l.Pairwise (fun x y=>key x<key y)→(iw key x l).Pairwise (fun x y=>key x<key y)
 |[],_=>by simp[iw]
 |z:: l,h=>by
  rw[List.pairwise_cons]at h;unfold iw
  split
  ·rename_i hlt
   rw[List.pairwise_cons,List.pairwise_cons];refine⟨fun y hy=> ?_,h⟩;rcases List.mem_cons.1 hy with rfl|hy
   ·exact hlt
   ·have:=h.1 y hy;omega
  ·split
   ·rename_i he
    rw[List.pairwise_cons];exact⟨fun y hy=>by have:=h.1 y hy;omega,h.2⟩
   ·rename_i h1 h2
    rw[List.pairwise_cons];refine⟨fun y hy=> ?_,xE h.2⟩;rcases Am hy with rfl|hy
    ·omega
    ·exact h.1 y hy
theorem uF{x:α}{l:List α}{a:Int}(h:eU key good a l=true)(hx:a< key x)(hg:good x=true):eU key good a (iw key x l)=true:= by
 obtain⟨h1,h2⟩:=ck.1 h;refine ck.2 ⟨fun y hy=> ?_,xE h2⟩;rcases Am hy with rfl|hy
 ·exact⟨hx,hg⟩
 ·exact h1 y hy
def cQ(key:α→ Int)(x:α)(acc:List α×Bool)(y:α):List α×Bool:=
 ((if acc.2=false∧ key x≤key y then acc.1++[x]else acc.1)++(if key y=key x then[]else[y]),acc.2||decide (key x≤key y))
def Vl(key:α→ Int)(x:α)(l:List α):List α:=if (l.foldl (cQ key x) ([],false)).2 then(l.foldl (cQ key x) ([],false)).1 else(l.foldl (cQ key x) ([],false)).1++[x]
theorem pW{x:α}:∀(l pre:List α),(∀y∈ l,key y≠key x)→l.foldl (cQ key x) (pre,true)=(pre++l,true)
 |[],pre,_=>by simp
 |y:: l,pre,h=>by
  rw[List.foldl_cons];have hy:=h y (List.mem_cons_self ..);have:cQ key x (pre,true) y=(pre++[y],true):=by simp[cQ,hy]
  rw[this,pW l _ fun z hz=>h z (List.mem_cons_of_mem _ hz)];simp
theorem sW{x:α}:∀(l pre:List α),l.Pairwise (fun x y=>key x<key y)→(if(l.foldl (cQ key x) (pre,false)).2 then(l.foldl (cQ key x) (pre,false)).1 else(l.foldl (cQ key x) (pre,false)).1++[x])=pre++ iw key x l
 |[],pre,_=>by simp[iw]
 |y:: l,pre,h=>by
  rw[List.pairwise_cons]at h;rw[List.foldl_cons];unfold iw;by_cases h1:key x<key y
  ·have:cQ key x (pre,false) y=(pre++[x,y],true):=by
    have h2:key x≤key y:=o_;have h3:¬key y=key x:=o_;simp[cQ,h2,h3]
   rw[this,pW l _ fun z hz=>by have:=h.1 z hz;omega,if_pos h1];simp
  ·rw[if_neg h1];by_cases h2:key y=key x
   ·have:cQ key x (pre,false) y=(pre++[x],true):=by simp[cQ,h2]
    rw[this,pW l _ fun z hz=>by have:=h.1 z hz;omega,if_pos h2];simp
   ·have:cQ key x (pre,false) y=(pre++[y],false):=by
     have h3:¬key x≤key y:=o_;simp[cQ,h2,h3]
    rw[this,if_neg h2];have:=sW l (pre++[y]) h.2 (x:=x);rw[this];simp
theorem C8{x:α}{l:List α}(h:l.Pairwise (fun x y=>key x<key y)):Vl key x l=iw key x l:=by
 have:=sW l [] h (x:=x);rw[List.nil_append]at this;exact this
end
structure St where
 term:Int
 ag:Int
 next:Int
 ax:List aj
 ai:List aV
 cd:List aD
 aP:List bR
 deriving DecidableEq
def bV:List aV→Int→ Int
 |[],_=>0
 |x:: l,id=>(if x.aC=id then x.size-x.bN else 0)+bV l id
theorem xL(l m:List aV)(id:Int):bV (l++m) id=bV l id+bV m id:=by
 induction l with
 |nil=> simp[bV]
 |cons x l ih=>rw [List.cons_append,bV,bV,ih];omega
theorem CY{l:List aV}{k:Nat}(h:k< l.length)(id:Int):bV (l.take (k+1)) id=bV (l.take k) id+(if l[k].aC=id then l[k].size-l[k].bN else 0):=by
 rw[List.take_succ_eq_append_getElem h,xL];simp[bV]
def Fits(l:List aV):Prop:= ∀x∈ l,1≤x.aC∧ x.aC≤16∧ 1≤x.size∧ x.size≤1000000∧ 0≤x.bN∧ x.bN≤x.size
theorem Fits.sub{l m:List aV}(h:Fits l)(hs:∀x∈ m,x∈l):Fits m:=fun x hx=>h x (hs x hx)
theorem fM:∀ {l:List aV} (id:Int),Fits l→0≤ bV l id∧bV l id≤1000000* l.length
 |[],_,_=>by simp[bV]
 |x:: l,id,h=>by
  have h1:=h x (List.mem_cons_self ..);have h2:=fM id (fun y hy=>h y (List.mem_cons_of_mem _ hy):Fits l);rw[bV,List.length_cons]
  split<;>omega
theorem Az:∀ {l:List aV} {x:aV},Fits l→x∈ l→x.size- x.bN≤bV l x.aC
 |y:: l,x,h,hx=>by
  have hl:Fits l:=fun y hy=>h y (List.mem_cons_of_mem _ hy)
  have h2:=fM x.aC hl;rw[bV];rcases List.mem_cons.1 hx with rfl|hx
  ·simp;omega
  ·have h3:=Az hl hx;have h1:=h y (List.mem_cons_self ..)
   split<;>omega
def jM(ts:List aj)(next:Int)(x:aV):Bool:=
 (bf ts x.aC).2&&decide (x.id<next∧ 1≤x.ak∧ x.ak≤8∧ 1≤x.aM∧ 1≤x.number∧ 1≤x.size∧ x.size≤1000000∧ 0≤x.bN∧ x.bN<x.size)
def eu(ts:List aj)(next:Int)(ls:List aV):Bool:= eU aV.id (jM ts next) 0 ls
def ei(ls:List aV)(t:aj):Bool:= decide (0<t.bucket→ t.bucket+1000* bV ls t.id≤1000* t.aq)
def cp(s:St):Bool:= aZ 0 s.ax&&(eu s.ax s.next s.ai&&decide (s.ai.length≤64∧ 1≤s.next∧ s.next≤1099511627776))&&s.ax.all (ei s.ai)
theorem ry{ts:List aj}{id:Int}(ht:aZ 0 ts=true)(h:(bf ts id).2=true):1≤ id∧id≤ 16:=by
 rw[fO id ht]at h;cases hf:dD ts id with
 |none=> rw[hf]at h;cases h
 |some x=>
  obtain⟨h1,h2⟩:=ie hf;have h3:=(cJ.1 ht).1 x h1;have h4:=h3.2;unfold yq at h4;simp only[Bool.and_eq_true,decide_eq_true_eq]at h4;omega
theorem bU{ts:List aj}{next:Int}{ls:List aV}(ht:aZ 0 ts=true)(h:eu ts next ls=true):Fits ls:=fun x hx=>by
 have:=((ck.1 h).1 x hx).2;unfold jM at this;simp only[Bool.and_eq_true,decide_eq_true_eq]at this;have h2:=ry ht this.1;omega
def je(ls:List aV):List Int:=(List.range 16).map fun i:Nat=> bV ls ((i:Int)+1)
theorem mB(ls:List aV):(je ls).length=16:= by simp[je]
def bG(s:St):St:= {s with ax:=jB s.ax (je s.ai)}
def dH(b aK aq out ticks:Int):Int:= gF (bL b 0 2305843009213693952+bL aK 0 1000000*bL ticks 0 1099511627776) aq out
def iy(b aq out size:Int):Int:= gF (bL b 0 2305843009213693952+1000* bL size 0 1000000) aq out
def gi(b size:Int):Int× Int:=if size<0∨ max b 0/1000< size then(0,170)else(b-1000* size,0)
def pN(s:St)(id:Int):Option aV:=fN aV.id s.ai id
def mH:aV:= ⟨0,0,0,0,0,0,0⟩
def fE(s:St)(id:Int):aV× Bool:=if cp s=true then(match pN s id with|some x=>(x,true)|none=> (mH,false))else(mH,false)
def eB(ls:List aV)(ticks:Int)(t:aj):aj:= if t.gone=true then t else{t with bucket:=dH t.bucket t.aK t.aq (bV ls t.id) ticks}
def dA(s:St)(ticks:Int):St:= if cp s=true then bG {s with ax:=s.ax.map (eB s.ai ticks)}else s
def jo(sh ep nu sz:Int):Prop:= sh<1∨ 8<sh∨ ep<1∨ nu<1∨ sz<1∨ 1000000<sz
instance (sh ep nu sz:Int):Decidable (jo sh ep nu sz):=by unfold jo;infer_instance
def cV(s:St)(sh ep nu te sz:Int):St× bS:=
 if cp s=false then(s,bS.err 2)
 else if jo sh ep nu sz then(bG s,bS.err 2)
 else if(bf s.ax te).2=false∨ (bf s.ax te).1.gone=true then(bG s,bS.err 161)
 else if 64≤s.ai.length∨ 1099511627776≤s.next then(bG s,bS.err 100)
 else if(gi (bf s.ax te).1.bucket sz).2≠0 then(bG s,bS.err (gi (bf s.ax te).1.bucket sz).2)
 else(bG {s with ax:=(mE s.ax {(bf s.ax te).1 with bucket:=(gi (bf s.ax te).1.bucket sz).1}).1,ai:=s.ai++ [⟨s.next,te,sh,ep,nu,sz,0⟩],next:=s.next+ 1},
  ⟨0,(bf s.ax te).1.aK,(bf s.ax te).1.aq,s.next,sz⟩)
def gV(sh ep le:Int)(x:aV):Bool:= decide (x.id=le∧ x.ak=sh∧ x.aM=ep)
def ib(le:Int)(ls:List aV):List aV:=ls.filter fun y=> !decide (y.id=le)
def dP(le sp:Int)(ls:List aV):List aV:=ls.map fun y=>if y.id=le then{y with bN:=sp}else y
def CK(s:St)(x:aV)(sp:Int):aj:= {(bf s.ax x.aC).1 with bucket:=iy (bf s.ax x.aC).1.bucket (bf s.ax x.aC).1.aq (bV (ib x.id s.ai) x.aC) (x.size-sp)}
def dN(s:St)(sh ep le sp:Int)(cl:Bool):St× Int:=
 if cp s=false then(s,2)
 else match s.ai.find? (gV sh ep le)with
  |none=> (bG s,180)
  |some x=>
   if sp<x.bN∨ x.size<sp then(bG s,2)
   else if cl=false∧ sp<x.size then(bG {s with ai:=dP le sp s.ai},0)
   else(bG {s with ai:=ib le s.ai,ax:=if cl=true∧ (bf s.ax x.aC).1.gone=false then(mE s.ax (CK s x sp)).1 else s.ax},0)
def eW(s:St)(l:List Int):St:= if cp s=true then bG {s with ai:=s.ai.filter fun x=> !l.contains x.id}else s
end Go.Proofs.YtfdmhpohfjbpfaaGreat
namespace Go.Proofs.YtfdmhpohfjbpfaaGreat
open Go.ChangeShapes Go.WideShapes Go.ChangeAt Go.RowKit
set_option maxRecDepth 100000
set_option maxHeartbeats 16000000
section
variable {P:Program} {e:TypeId} {α:Type}
theorem A2(L:iW P e α){t:TypeId}(ht:P.underlying t=some (.slice e))(ty:TypeId)(w:World)(g o:Nat)(A M R cs:List Value)(te:TypeId)(hg:w.heap[g]? =some (.cells (A++(M++R)).toArray te (0,0)))(ho:A.length= o)(hM:M.length= cs.length)(h1:∀u∈ cs,u.oneCell'=true)(dn dc sn sc m:Nat)(sp:Addr)(hm:Nat.min sn dn=m)(hl:cs.length= m*L.size)(hsrc:∀j v,cs[j]? =some v→w.cell? (sp.add j)=some v):
 (Builtin.copy_ #[t,t] ty (vs2 (some ⟨g,o,none⟩) dn dc (some sp) sn sc)).run P w= .ok (goInt m) (w.setRow g (A++(cs++R)).toArray):=by
 obtain⟨i,z,h2,_,h3,_⟩:=L.parts;have hsz:(sizeOf e).run P w= .ok L.size w:=by simp[sizeOf,typeInfo,h2,h3]
 have hfc:=run_firstCells_some (P:=P) (w:=w) L.size m sp sn sc cs hl hsrc;have hst:=run_storeCells_at (P:=P) g o te cs 0 (A++(M++R)).toArray w hg (by simp;omega) h1;have hrow:((A++(M++R)).toArray.toList.take (o+0)++cs++ (A++(M++R)).toArray.toList.drop (o+0+ cs.length))=A++ (cs++R):=by
  rw[List.toList_toArray,Nat.add_zero,←ho,List.take_left,←hM,←List.drop_drop,List.drop_left,List.drop_left,List.append_assoc]
 rw[hrow]at hst;simp only[Builtin.copy_];simp[run_underlying ht,Builtin.lenOf,hm,hsz,hfc,hst]
theorem BC{B g:Nat}{w0 w:World}(hb:Below B w0 w)(hBg:B≤ g)(cs:Array Value):Below B w0 (w.setRow g cs):=
 hb.trans ⟨rfl,rfl,rfl,by simp[World.setRow],fun k hk=>setRow_other w g k cs o_⟩
theorem ey{ops:Array Oper}{rest:List Oper}{op:Oper}{a:Act}{w:World}{Q:Exit→ Act→World→ Prop}(L:iW P e α){t:TypeId}(ht:P.underlying t=some (.slice e))(hgd:op.guard= none)(d s:Operand)(ho:op.op= .call {callee:= .builtin .copy,args:= #[d,s],argTypes:= #[t,t]})(g o:Nat)(A M R cs:List Value)(te:TypeId)(hg:w.heap[g]? =some (.cells (A++(M++R)).toArray te (0,0)))(hoA:A.length= o)(hM:M.length= cs.length)(h1:∀u∈ cs,u.oneCell'=true)(dn dc sn sc m:Nat)(sp:Addr)(hm:Nat.min sn dn=m)(hl:cs.length= m*L.size)(hsrc:∀j v,cs[j]? =some v→w.cell? (sp.add j)=some v)(hd:a.eval d= .slice (some ⟨g,o,none⟩) dn dc)(hs:a.eval s= .slice (some sp) sn sc)(h:∀w',w'.heap[g]? =some (.cells (A++(cs++R)).toArray te (0,0))→(∀B,B≤g→ Below B w w')→(∀k,k≠g→ w'.heap[k]? =w.heap[k]?)→w'.heap.size= w.heap.size→wpList P ops Q rest (a.put op.dst (goInt m)) w'):wpList P ops Q (op::rest) a w:=
 wpList_plain hgd fun K hK=>by
  have hrun:=A2 L ht op.type w g o A M R cs te hg hoA hM h1 dn dc sn sc m sp hm hl hsrc;unfold Oper.wp execOp;simp only[ho,resolve,invoke,builtin,Sem.run_bind,Sem.run_pure,Result.andThen_ok,List.map_toArray,List.map_cons,List.map_nil,hd,hs,hrun];exact hK _ _ (h _ (setRow_heap w g _ _ te _ hg) (fun B hB=>BC b_ hB _) (fun k hk=>setRow_other w g k _ hk) (by simp[World.setRow]))
theorem o9(L:iW P e α){t tn:TypeId}(ht:P.underlying t=some (.slice e))(htn:P.underlying tn=some (.int .i64))(ty:TypeId)(w:World)(b o i c k:Nat)(A:List Value)(hA:A.length= i*L.size)(hsrc:∀j v,A[j]? =some v→w.cell? ⟨b,o+j,none⟩=some v)(hk:0< k)(hg:c< i+k)(hby:(i+k)*L.bytes≤ 140737488355328):
 ∃w' g' c' Z,(Builtin.append_ #[t,tn] ty (Bp (some ⟨b,o,none⟩) i c k)).run P w= .ok (.slice (some ⟨g',0,none⟩) (i+k) c') w'∧g'= w.heap.size∧i+ k≤c'∧ c'≤maxLen∧
  w'.heap[g']? =some (.cells (A++Z).toArray e (0,0))∧(A++Z).length=c'* L.size∧Below w.heap.size w w'∧w'.heap.size= w.heap.size+1:= by
 obtain⟨ti,z,h1,h2,h3,h4,h5,_⟩:=L.parts;have hb:=L.oJ;have hsmall:i+ k≤140737488355328:= Nat.le_trans (Nat.le_mul_of_pos_right _ hb) hby;have hold:(Builtin.firstCells ti.size i (.slice (some ⟨b,o,none⟩) i c)).run P w.drew= .ok A.toArray w.drew:=by
  rw[h3];exact run_firstCells_some (P:=P) (w:=w.drew) L.size i ⟨b,o,none⟩ i c A hA (fun j v hj=>by rw[Addr.add_mid];exact hsrc j v hj)
 have hrun:=Lib.run_append_grow_zeros (P:=P) w t tn ty e ti z .i64 .i64 ht htn h1 h2 (some ⟨b,o,none⟩) i c A hold k hk (by rw[h3];exact L.pos) hg o_
  (by rw[h4];have:k* L.bytes≤(i+k)*L.bytes:= Nat.mul_le_mul_right _ o_;omega) (by rw[h4];exact growslice_fits hg hby)
 have hle:i+ k≤grownCap w (i+k) c e:=by simp[grownCap,Question.cut]
 have hmax:=grownCap_le_maxLen w (i+k) c e (by unfold maxLen;omega);refine⟨_,w.heap.size,grownCap w (i+k) c e,(Builtin.zeroCells z.cells k++Builtin.zeroCells z.cells (grownCap w (i+k) c e-(i+k))).toList,hrun,rfl,hle,hmax,?_,?_,?_,?_⟩
 ·have:=heap_alloc_new w.drew (.cells (A.toArray++Builtin.zeroCells z.cells k++Builtin.zeroCells z.cells (grownCap w (i+k) c e-(i+k))) e);have h6:w.drew.heap.size= w.heap.size:=rfl;rw[h6]at this;rw[this]
  congr 2
  simp
 ·simp[size_zeroCells,h5,hA];rw[←Nat.add_mul,←Nat.add_mul]
  congr 1
  omega
 ·exact((Below.refl w.heap.size w).drew).alloc n_ _
 ·simp
theorem fS{ops:Array Oper}{rest:List Oper}{op:Oper}{ac:Act}{w:World}{cs:Array Value}{te:TypeId}{Q:Exit→ Act→World→ Prop}(L:iW P e α){t:TypeId}(ht:P.underlying t=some (.slice e))(hgd:op.guard= none)(s x:Operand)(ho:op.op= .call {callee:= .builtin .append,args:= #[s,x],argTypes:= #[t,t]})(B:Nat)(a:Option Addr)(n c:Nat)(xs:List α)(hs:ac.eval s= .slice a n c)(hown:w.ownsRow B e L.size (.slice a n c) n (xs.flatMap L.cells))(y:α)(hcs:cs.toList= L.cells y)(hx:ac.eval x= .slice (some ⟨w.heap.size,0,none⟩) 1 1)(hby:(n+1)*L.bytes≤ 140737488355328)(hB:B≤ w.heap.size)(h:∀a' c' w',w'.ownsRow B e L.size (.slice a' (n+1) c') (n+1) ((xs++[y]).flatMap L.cells)→Below B w w'→wpList P ops Q rest (ac.put op.dst (.slice a' (n+1) c')) w'):wpList P ops Q (op::rest) ac (w.alloc (.cells cs te)):=by
 refine eX (L.elem ht) hgd s x ho B (.slice a n c) n _ hs (hown.alloc _) (some ⟨w.heap.size,0,none⟩) 1 1 (L.cells y) hx (by rw[L.len,Nat.one_mul]) (by rw[←hcs];exact Row.new _ _ _ _) (L.one y) hby (Nat.le_trans hB (by simp)) ?_;intro a' c' w' py hg2;refine h a' c' w' ?_ (Below.app ((Below.refl B w).alloc hB _) (hown.alloc _) hg2 (Nat.le_trans hB (by simp)));rw[List.flatMap_append,List.flatMap_cons,List.flatMap_nil,List.append_nil];exact py
theorem aa{ops:Array Oper}{rest:List Oper}{op:Oper}{a:Act}{w:World}{Q:Exit→ Act→World→ Prop}(L:iW P e α)(hgd:op.guard= none)(x:Operand)(ho:op.op= .load e x)(b o:Nat)(hx:a.eval x= .pointer (some ⟨b,o,none⟩))(y:α)(v:Value)(hv:L.val y=v)(hc:w.rangeAt b o (L.cells y))(h:wpList P ops Q rest (a.put op.dst v) w):wpList P ops Q (op::rest) a w:=by
 subst hv;exact bQ L hgd x ho b o hx y hc h
theorem cO{ops:Array Oper}{rest:List Oper}{op:Oper}{a:Act}{w:World}{Q:Exit→ Act→World→ Prop}(L:iW P e α)(hgd:op.guard= none)(x y:Operand)(ho:op.op= .store e x y)(b o:Nat)(z:α)(hx:a.eval x= .pointer (some ⟨b,o,none⟩))(hy:a.eval y=L.val z)(ht:w.there b o L.size)(h:∀w',w'.rangeAt b o (L.cells z)→w'.there b o L.size→(∀B,B≤b→ Below B w w')→w'.heap.size= w.heap.size→wpList P ops Q rest (a.put op.dst undef) w'):wpList P ops Q (op::rest) a w:=
 fY L hgd x y ho b o z hx hy ht (h _ (sx z ht) (World.there_setCells ht _ _ _) (fun _ hB=>Below.setCells hB _ _ b_) (dW _ _ _ _))
theorem oI{w w':World}{cs:Array Value}{t:TypeId}(hb:Below (w.alloc (.cells cs t)).heap.size (w.alloc (.cells cs t)) w'):w'.there w.heap.size 0 cs.size:=
 GW (Dj w cs t) hb (by simp)
theorem jY{w w':World}{cs:List Value}{t:TypeId}(hb:Below (w.alloc (.cells cs.toArray t)).heap.size (w.alloc (.cells cs.toArray t)) w'):w'.rangeAt w.heap.size 0 cs:=fun j v hv=>by
 rw[Nat.zero_add,aW hb j,List.getElem?_toArray,hv]
theorem Can.alloc{w:World}{B:Nat}{t:TypeId}{size:Nat}{a:Option Addr}{n c:Nat}{xs:List Value}(h:Can w B t size a n c xs)(o:Obj):Can (w.alloc o) B t size a n c xs:=
 ⟨h.1,h.2.1,h.2.2.imp (fun⟨h1,h2⟩=>⟨h1,Row.alloc h2 o⟩) (fun h=>h.alloc o)⟩
theorem sw{L:iW P e α}{w:World}{B g n c:Nat}{A:List Value}(h:w.ownsRow B e L.size (.slice (some ⟨g,0,none⟩) n c) n A):B≤ g∧n≤ c∧c≤ maxLen∧A.length= n*L.size∧ ∃D,w.heap[g]? =some (.cells (A++D).toArray e (0,0))∧(A++D).length=c* L.size:=by
 obtain⟨hl,h⟩:=h;rcases h with⟨hv,_⟩|⟨g',cap,cur,hv,hB,hg,hnc,hm,hs,ht⟩
 ·cases hv
 ·simp only[Value.slice.injEq,Option.some.injEq,Addr.mk.injEq,and_true]at hv;obtain⟨rfl,_,rfl⟩:=hv;refine⟨hB,hnc,hm,hl,cur.toList.drop (n*L.size),?_,?_⟩
  ·rw[←ht,List.take_append_drop];simpa using hg
  ·rw[←ht,List.take_append_drop];simpa using hs
theorem mC{L:iW P e α}{w:World}{B g n c:Nat}{A D:List Value}(hB:B≤ g)(hnc:n≤ c)(hm:c≤ maxLen)(hA:A.length= n*L.size)(hg:w.heap[g]? =some (.cells (A++D).toArray e (0,0)))(hs:(A++D).length=c* L.size):
 w.ownsRow B e L.size (.slice (some ⟨g,0,none⟩) n c) n A:=
 ⟨hA,.inr ⟨g,c,(A++D).toArray,rfl,hB,hg,hnc,hm,by simpa using hs,by rw[List.toList_toArray,←hA,List.take_left]⟩⟩
end
end Go.Proofs.YtfdmhpohfjbpfaaGreat
namespace Go.Proofs.YtfdmhpohfjbpfaaGreat
open Go.ChangeShapes Go.WideShapes Go.ChangeAt Go.RowKit Go.Maps
set_option maxRecDepth 100000
set_option maxHeartbeats 16000000
structure jJ(P:Program)(k:TypeId)(κ:Type) where
 keyed:Keyed P k
 enc:κ→ Value
 kl:κ→ Lit
 good:κ→ Prop
 key:∀x,good x→keyOf P k (enc x)=some (kl x)
 inj:∀x y,enc x=enc y→x= y
section
variable {P:Program} {k e:TypeId} {κ:Type} {K:jJ P k κ}
theorem jJ.same(K:jJ P k κ){x y:κ}(hx:K.good x)(hy:K.good y)(h:K.kl x=K.kl y):x= y:=
 K.inj x y (K.keyed.inj (K.key x hx) (by rw[K.key y hy,h]))
theorem jJ.isKey(K:jJ P k κ){x:κ}(hx:K.good x):WideAt.IsKeyLit (K.kl x):=K.keyed.key (K.key x hx)
def iP(K:jJ P k κ)(e:TypeId)(w:World)(b n:Nat)(f:κ→ Option Int):Prop:=
 ∃D: DataW Unit,w.ownsMap P k (plainElem P e) b n D∧∀x,K.good x→D.atKey (K.kl x) (.lit (.int .i64 0))= .lit (.int .i64 ((f x).getD 0))∧Maps.has D (K.kl x)=(f x).isSome
def VM[DecidableEq κ](f:κ→ Option Int)(x:κ)(z:Int):κ→ Option Int:=fun y=>if y=x then some z else f y
theorem iP.made(w:World):iP K e (w.alloc (.map #[] 0)) w.heap.size 0 (fun _=>none):=
 ⟨.map [],World.ownsMap_made _ _ _ _,fun _ _=>⟨rfl,rfl⟩⟩
theorem iP.below{w w':World}{b n B:Nat}{f:κ→ Option Int}(h:iP K e w b n f)(hb:Below B w w')(hB:b< B):iP K e w' b n f:=by
 obtain⟨D,⟨es,clock,h1,h2⟩,hf⟩:=h;exact⟨D,⟨es,clock,by rw[hb.block b hB];exact h1,h2⟩,hf⟩
theorem iP.lt{w:World}{b n:Nat}{f:κ→ Option Int}(h:iP K e w b n f):b< w.heap.size:=by
 obtain⟨D,⟨es,clock,h1,_⟩,_⟩:=h;exact(Array.getElem?_eq_some_iff.1 h1).1
theorem iP.mono{w:World}{b n m:Nat}{f:κ→ Option Int}(h:iP K e w b n f)(hn:n≤ m):iP K e w b m f:=
 let ⟨D,h1,h2⟩:=h;⟨D,h1.mono hn,h2⟩
theorem iP.Pj{w:World}{b n:Nat}{f:κ→ Option Int}(h:iP K e w b n f){p:Addr}(hp:p.block≠ b)(v:Value):iP K e (w.setCell p v) b n f:=by
 obtain⟨D,⟨es,clock,h1,h2⟩,hf⟩:=h;exact⟨D,⟨es,clock,by rw[Below.heap_setCell _ _ _ _ (fun h=>hp h.symm)];exact h1,h2⟩,hf⟩
theorem iP.alloc{w:World}{b n:Nat}{f:κ→ Option Int}(h:iP K e w b n f)(o:Obj):iP K e (w.alloc o) b n f:=
 h.below ((Below.refl w.heap.size w).alloc n_ o) h.lt
theorem iP.grown{w w':World}{b n b0:Nat}{f:κ→ Option Int}(h:iP K e w b n f)(hg:w.grownBy w' (some b0))(hne:b≠ b0):iP K e w' b n f:=by
 have hlt:=h.lt;obtain⟨D,⟨es,clock,h1,h2⟩,hf⟩:=h;exact⟨D,⟨es,clock,by rw[hg.block b hlt (by simp;omega)];exact h1,h2⟩,hf⟩
theorem lW[DecidableEq κ]{w:World}{ops:Array Oper}{rest:List Oper}{o:Oper}{a:Act}{Q:Exit→ Act→World→ Prop}(K:jJ P k κ){t:TypeId}(ht:P.underlying t=some (.map k e))(he:P.underlying e=some (.int .i64))(hg:o.guard= none)(m x v:Operand)(hop:o.op= Op.mapUpdate t m x v)(b n:Nat)(f:κ→ Option Int)(hm:a.eval m= .map (some b))(hown:iP K e w b n f)(hn:n< maxLen)(y:κ)(hy:K.good y)(hx:a.eval x=K.enc y)(z:Int)(hv:a.eval v= .int .i64 z)(hz:(Lit.int .i64 z).wf=true)(h:∀w',iP K e w' b (n+1) (VM f y z)→w.grownBy w' (some b)→wpList P ops Q rest (a.put o.dst undef) w'):wpList P ops Q (o::rest) a w:=by
 obtain⟨D,hD,hf⟩:=hown;refine wpList_mapUpdate_own w hg m x v t hop k e K.keyed ht (plainElem P e) b n D hm hD hn _ _ (K.kl y) hx hv (K.key y hy) (.lit (.int .i64 z)) [] (plainElem_int he hz) ?_;intro w' hD' hg';refine h w' ⟨_,hD',fun y' hy'=> ?_⟩ hg';have hmap:IsMap D:=by
  obtain⟨es,clock,_,_,_,rfl⟩:=hD;exact⟨_,rfl⟩
 unfold VM;by_cases e:y'= y
 ·subst e;rw[if_pos rfl];exact⟨atKey_put_same hmap (K.isKey hy) _ _,has_put_same hmap (K.isKey hy) _⟩
 ·have hne:K.kl y'≠K.kl y:=fun h=>e (K.same hy' hy h)
  rw[if_neg e,atKey_put_other hne,has_put_other hne];exact hf y' hy'
theorem gU{w:World}{ops:Array Oper}{rest:List Oper}{o:Oper}{a:Act}{Q:Exit→ Act→World→ Prop}(K:jJ P k κ){t:TypeId}(ht:P.underlying t=some (.map k e))(he:P.underlying e=some (.int .i64))(hz:∀w,(zeroValue e).run P w= .ok (.int .i64 0) w)(hg:o.guard= none)(m x:Operand)(hop:o.op= Op.lookup t m x true)(b n:Nat)(f:κ→ Option Int)(hm:a.eval m= .map (some b))(hown:iP K e w b n f)(y:κ)(hy:K.good y)(hx:a.eval x=K.enc y)(h:wpList P ops Q rest (a.put o.dst (.tuple (WS ((f y).getD 0) (f y).isSome))) w):wpList P ops Q (o::rest) a w:=by
 obtain⟨D,hD,hf⟩:=hown;obtain⟨h1,h2⟩:=hf y hy;refine wpList_lookup_own_ok_int w hg m x t hop k e .i64 K.keyed ht he (hz w) b n D hm hD _ (K.kl y) hx (K.key y hy) ?_;intro c hc _;rw[h1]at hc;simp only[DataW.lit.injEq,Lit.int.injEq,true_and]at hc;rw[h2,←hc];exact h
theorem nL{w:World}{ops:Array Oper}{rest:List Oper}{o:Oper}{a:Act}{Q:Exit→ Act→World→ Prop}(K:jJ P k κ){t:TypeId}(ht:P.underlying t=some (.map k e))(he:P.underlying e=some (.int .i64))(hz:∀w,(zeroValue e).run P w= .ok (.int .i64 0) w)(hg:o.guard= none)(m x:Operand)(hop:o.op= Op.lookup t m x false)(b n:Nat)(f:κ→ Option Int)(hm:a.eval m= .map (some b))(hown:iP K e w b n f)(y:κ)(hy:K.good y)(hx:a.eval x=K.enc y)(h:wpList P ops Q rest (a.put o.dst (.int .i64 ((f y).getD 0))) w):wpList P ops Q (o::rest) a w:=by
 obtain⟨D,hD,hf⟩:=hown;obtain⟨h1,_⟩:=hf y hy;refine wpList_lookup_own_int w hg m x t hop k e .i64 K.keyed ht he (hz w) b n D hm hD _ (K.kl y) hx (K.key y hy) ?_;intro c hc _;rw[h1]at hc;simp only[DataW.lit.injEq,Lit.int.injEq,true_and]at hc;rw[←hc];exact h
end
theorem sV{P : Program}{k e : TypeId}{q : IntKind}{f : Field}(hu : P.underlying k = some (.struct #[f]))(hf : f.type = e)(ho : f.offset = 0)(hn : (f.name != "_") = true)(h1 : P.cellsOf k = 1)(h2 : P.cellsOf e = 1)(hkt : P.keyType k = true)(he : P.underlying e = some (.int q))(hsz : ∃ m, P.types.size = m + 1){a : Int}(wa : (Lit.int q a).wf = true) :
 keyOf P k (.agg #[.int q a])=some (.string (keyBytes [.int q a])):=by
 obtain⟨m,hm⟩:=hsz;unfold keyOf;simp only[hu];rw[if_pos (by simp[hkt,Value.formed,hu,h1]),hm];unfold Program.keyLits;simp only[hu,Value.cells];rw[if_pos (by simp[h1,hn])];simp[hf,ho,h2,Program.keyLits,he,wa]
end Go.Proofs.YtfdmhpohfjbpfaaGreat
namespace Go.Proofs.YtfdmhpohfjbpfaaGreat
open Go.ChangeShapes Go.WideShapes Go.ChangeAt Go.RowKit
set_option maxRecDepth 100000
set_option maxHeartbeats 16000000
structure sH where
 a:Option Addr
 n:Nat
 c:Nat
structure Raw where
 term:Int
 ag:Int
 next:Int
 cD:sH
 cG:sH
 eY:sH
 ft:sH
abbrev Raw.cells(r:Raw):List Value:=(aw r.term r.ag r.next r.cD.a r.cD.n r.cD.c r.cG.a r.cG.n r.cG.c r.eY.a r.eY.n r.eY.c r.ft.a r.ft.n r.ft.c)
abbrev Raw.agg(r:Raw):Value:= .agg (aw r.term r.ag r.next r.cD.a r.cD.n r.cD.c r.cG.a r.cG.n r.cG.c r.eY.a r.eY.n r.eY.c r.ft.a r.ft.n r.ft.c)
def aG:iW Tryz.prog 27 Raw:=iW.struct Raw.cells 7 120 (fun _=>rfl) d_ d_ (fun x u hu=>by simp at hu;rcases hu with h|h| h|h| h|h| h<;>subst h<;>rfl) k_ _ Tryz.underlying27 rfl
theorem QT{w:World}{b o:Nat}{t:Raw}(h:w.rangeAt b o t.cells):w.cell? ⟨b,o,none⟩=some (.int .i64 t.term)∧w.cell? ⟨b,o+1,none⟩=some (.int .i64 t.ag)∧w.cell? ⟨b,o+2,none⟩=some (.int .i64 t.next)∧
 w.cell? ⟨b,o+3,none⟩=some (.slice t.cD.a t.cD.n t.cD.c)∧w.cell? ⟨b,o+4,none⟩=some (.slice t.cG.a t.cG.n t.cG.c)∧w.cell? ⟨b,o+5,none⟩=some (.slice t.eY.a t.eY.n t.eY.c)∧w.cell? ⟨b,o+6,none⟩=some (.slice t.ft.a t.ft.n t.ft.c):=
 ⟨h 0 _ rfl,h 1 _ rfl,h 2 _ rfl,h 3 _ rfl,h 4 _ rfl,h 5 _ rfl,h 6 _ rfl⟩
theorem bP{w:World}{b:Nat}{t:Raw}(h:w.rangeAt b 0 t.cells):w.cell? ⟨b,0,none⟩=some (.int .i64 t.term)∧w.cell? ⟨b,1,none⟩=some (.int .i64 t.ag)∧w.cell? ⟨b,2,none⟩=some (.int .i64 t.next)∧
 w.cell? ⟨b,3,none⟩=some (.slice t.cD.a t.cD.n t.cD.c)∧w.cell? ⟨b,4,none⟩=some (.slice t.cG.a t.cG.n t.cG.c)∧w.cell? ⟨b,5,none⟩=some (.slice t.eY.a t.eY.n t.eY.c)∧w.cell? ⟨b,6,none⟩=some (.slice t.ft.a t.ft.n t.ft.c):=by
 have:=QT h;simp only[Nat.zero_add]at this;exact this
structure cK{P:Program}{e:TypeId}{α:Type}(L:iW P e α)(w:World)(B:Nat)(s:sH)(xs:List α):Prop where
 len:xs.length= s.n
 le:s.n≤ s.c
 nil:s.a= none→s.c= 0
 eZ:cg B none s.a
 row:bF L w s.a xs
structure fQ{P:Program}{e:TypeId}{α:Type}(L:iW P e α)(w:World)(B:Nat)(s:sH)(xs:List α):Prop where
 can:Can w B e L.size s.a s.n s.c (xs.flatMap L.cells)
 own:0< xs.length→w.ownsRow B e L.size (.slice s.a s.n s.c) s.n (xs.flatMap L.cells)
structure gI(w:World)(B:Nat)(s:sH)(xs:List bR):Prop extends cK ay w B s xs where
 own:0< B→fQ ay w B s xs
 lt:0< B→∀x o q,s.a=some ⟨x,o,q⟩→x< w.heap.size
structure aX(w:World)(B:Nat)(r:Raw)(s:St):Prop where
 term:r.term= s.term
 ag:r.ag= s.ag
 next:r.next= s.next
 cD:cK aT w B r.cD s.ax
 cG:cK aJ w B r.cG s.ai
 eY:cK aB w B r.eY s.cd
 ft:gI w B r.ft s.aP
section
variable {P:Program} {e:TypeId} {α:Type} {L:iW P e α}
theorem cK.below{w w':World}{B:Nat}{s:sH}{xs:List α}(h:cK L w B s xs)(hb:Below w.heap.size w w'):cK L w' B s xs:=⟨h.len,h.le,h.nil,h.eZ,h.row.below hb⟩
theorem cK.mono{w:World}{B B':Nat}{s:sH}{xs:List α}(h:cK L w B s xs)(hB:B'≤ B):cK L w B' s xs:=⟨h.len,h.le,h.nil,h.eZ.mono hB,h.row⟩
theorem bF.bY{w w':World}{a:Option Addr}{xs:List α}{g:Nat}(h:bF L w a xs)(hk:∀k,k<w.heap.size→ k≠g→ w'.heap[k]? =w.heap[k]?)(hn:∀b o s,a=some ⟨b,o,s⟩→b≠ g):bF L w' a xs:=by
 by_cases h0:xs.flatMap L.cells=[]
 ·exact .inl h0
 ·rcases h with h|⟨b,o,rfl,hc⟩
  ·exact absurd h h0
  ·have hlt:=Row.lt (.inr ⟨b,o,rfl,hc⟩) h0;exact .inr ⟨b,o,rfl,fun i hi=>by rw[World.cell?_of_block (w:=w) (hk b hlt (hn b o _ rfl))];exact hc i hi⟩
theorem cK.bY{w w':World}{B:Nat}{s:sH}{xs:List α}{g:Nat}(h:cK L w B s xs)(hk:∀k,k<w.heap.size→ k≠g→ w'.heap[k]? =w.heap[k]?)(hg:g< B):cK L w' B s xs:=
 ⟨h.len,h.le,h.nil,h.eZ,h.row.bY hk (fun b o s hs=>by rcases h.eZ b o s hs with h1|⟨_,_,h1⟩;omega;cases h1)⟩
end
theorem Gu{w:World}{B B':Nat}{e:TypeId}{size:Nat}{v:Value}{n:Nat}{xs:List Value}(h:w.ownsRow B e size v n xs)(hB:B'≤ B):w.ownsRow B' e size v n xs:=by
 obtain⟨h1,h2⟩:=h;refine⟨h1,?_⟩;rcases h2 with h2|⟨g,cap,cur,h3,h4,h5⟩
 ·exact .inl h2
 ·exact .inr ⟨g,cap,cur,h3,by omega,h5⟩
theorem Gv{w w':World}{B:Nat}{e:TypeId}{size:Nat}{v:Value}{n:Nat}{xs:List Value}(h:w.ownsRow B e size v n xs)(hk:∀g cap,v= .slice (some ⟨g,0,none⟩) n cap→B≤ g→g< w.heap.size→w'.heap[g]? =w.heap[g]?):w'.ownsRow B e size v n xs:=by
 obtain⟨h1,h2⟩:=h;refine⟨h1,?_⟩;rcases h2 with h2|⟨g,cap,cur,h3,h4,h5,h6⟩
 ·exact .inl h2
 ·refine .inr ⟨g,cap,cur,h3,h4,?_,h6⟩;rw[hk g cap h3 h4 (Array.getElem?_eq_some_iff.1 h5).1];exact h5
section
variable {P:Program} {e:TypeId} {α:Type} {L:iW P e α} {w w':World} {B B0:Nat} {s:sH} {xs:List α}
theorem fQ.base(h:fQ L w B s xs)(hB:B0≤ B):fQ L w B0 s xs:=⟨⟨h.can.1,h.can.2.1,h.can.2.2.imp id (fun h=>Gu h hB)⟩,fun h0=>Gu (h.own h0) hB⟩
theorem fQ.same(h:fQ L w B s xs)(hr:bF L w' s.a xs)(hk:∀g,s.a=some ⟨g,0,none⟩→B≤ g→g< w.heap.size→w'.heap[g]? =w.heap[g]?):fQ L w' B s xs:=by
 have hk':∀g cap,Value.slice s.a s.n s.c= .slice (some ⟨g,0,none⟩) s.n cap→B≤ g→g< w.heap.size→w'.heap[g]? =w.heap[g]?:=fun g cap hv=>by
  simp only[Value.slice.injEq]at hv;exact hk g hv.1
 exact⟨⟨h.can.1,h.can.2.1,h.can.2.2.imp (fun h1=>⟨h1.1,hr⟩) (fun h1=>Gv h1 hk')⟩,fun h0=>Gv (h.own h0) hk'⟩
end
section
variable {w w':World} {B B':Nat} {s:sH} {xs:List bR}
theorem gI.same(h:gI w B s xs)(h2:cK ay w' B s xs)(hs:w.heap.size≤ w'.heap.size)(hk:∀g,0<B→ s.a=some ⟨g,0,none⟩→B≤ g→g< w.heap.size→w'.heap[g]? =w.heap[g]?):gI w' B s xs:=⟨h2,fun h0=>(h.own h0).same h2.row fun g=>hk g h0,fun h0 x o q e=>Nat.lt_of_lt_of_le (h.lt h0 x o q e) hs⟩
theorem gI.below(h:gI w B s xs)(hb:Below w.heap.size w w'):gI w' B s xs:=h.same (h.tocK.below hb) hb.size fun g _ _ _ h1=>hb.block g h1
theorem gI.mono(h:gI w B s xs)(hB:B'≤ B):gI w B' s xs:=⟨h.tocK.mono hB,fun h0=>(h.own o_).base hB,fun h0=>h.lt o_⟩
theorem gI.bY{g:Nat}(h:gI w B s xs)(hk:∀k,k<w.heap.size→ k≠g→ w'.heap[k]? =w.heap[k]?)(hs:w.heap.size≤ w'.heap.size)(hg:g< B):gI w' B s xs:=h.same (h.tocK.bY hk hg) hs fun g' _ _ h1 h2=>hk g' h2 o_
end
theorem aX.below{w w':World}{B:Nat}{r:Raw}{s:St}(h:aX w B r s)(hb:Below w.heap.size w w'):aX w' B r s:=⟨h.term,h.ag,h.next,h.cD.below hb,h.cG.below hb,h.eY.below hb,h.ft.below hb⟩
theorem aX.mono{w:World}{B B':Nat}{r:Raw}{s:St}(h:aX w B r s)(hB:B'≤ B):aX w B' r s:=⟨h.term,h.ag,h.next,h.cD.mono hB,h.cG.mono hB,h.eY.mono hB,h.ft.mono hB⟩
theorem aX.bY{w w':World}{B:Nat}{r:Raw}{s:St}{g:Nat}(h:aX w B r s)(hk:∀k,k<w.heap.size→ k≠g→ w'.heap[k]? =w.heap[k]?)(hs:w.heap.size≤ w'.heap.size)(hg:g< B):aX w' B r s:=
 ⟨h.term,h.ag,h.next,h.cD.bY hk hg,h.cG.bY hk hg,h.eY.bY hk hg,h.ft.bY hk hs hg⟩
theorem aX.jV{w:World}{B:Nat}{r:Raw}{s:St}(h:aX w B r s):dK w r.cD.a s.ax:=h.cD.row
theorem dh(g:Nat):∀(vs:List Value) (o:Nat) (w:World) (k:Nat),k≠g→ (w.setCells g o vs).heap[k]? =w.heap[k]?
 |[],_,_,_,_=>rfl
 |v:: vs,o,w,k,h=>by
  rw[World.setCells,dh g vs (o+1) _ k h];exact Below.heap_setCell _ _ _ _ (fun e=>h e)
theorem Bd{n:Int}(h1: -1000000000000≤ n)(h2:n≤ 1000000000000):(Lit.int .i64 n).wf=true:= Go.WalkArith.wf_i64 ⟨by omega,by omega⟩
theorem ah{w w':World}{o:Obj}(hb:Below (w.alloc o).heap.size (w.alloc o) w'):Below w.heap.size w w':=((Below.refl w.heap.size w).alloc n_ o).trans (hb.mono (by simp))
theorem jw{P:Program}{ops:Array Oper}{Q:Exit→ Act→World→ Prop}{a:Act}{w:World}{rest:List Oper}{o:Oper}(hw:Region.wanted o (yielded ops a.tmps)=true)(h:wpList P ops Q ({o with guard:=none}::rest) a w):wpList P ops Q (o::rest) a w:=by
 unfold wpList at h ⊢;rw[if_pos hw];rw[if_pos (by rfl)]at h;exact h
def mi(w:World)(B:Nat)(s:St)(e:Ending)(w':World):Prop:= ∃r,e= .returned (Raw.agg r)∧aX w' B r s∧Below w.heap.size w w'
theorem su{H:Type}{enc:TypeId× Value→H}{P:Program}{w:World}{t e:TypeId}{v:Value}(ht:P.underlying t=some (.slice e))(h:Rd enc P w t [v]):∃a n c,v= .slice a n c:=by
 rcases h.slice ht with h1|⟨a,n,c,h1,_⟩
 ·simp at h1;exact⟨_,_,_,h1⟩
 ·simp at h1;exact⟨_,_,_,h1⟩
end Go.Proofs.YtfdmhpohfjbpfaaGreat
namespace Go.Proofs.YtfdmhpohfjbpfaaGreat
open Go.ChangeShapes Go.WideShapes Go.ChangeAt Go.RowKit Go.Maps
set_option maxRecDepth 100000
set_option maxHeartbeats 16000000
def BU:jJ Tryz.prog 3 Int where
 keyed:=Maps.int_keyed Tryz.underlying3
 enc n:= .int .i64 n
 kl n:= .int .i64 n
 good n:=(Lit.int .i64 n).wf=true
 key _ h:=keyOf_int_mk Tryz.underlying3 h
 inj _ _ h:=by simpa using h
theorem Bg(w:World):(zeroValue 3).run Tryz.prog w= .ok (.int .i64 0) w:=by rfl
structure jz(w:World)(B b n:Nat)(f:Int→ Option Int)(ls:List aV):Prop where
 map:iP BU 3 w b n f
 out:∀id,(f id).getD 0=bV ls id
 base:B≤ b
 small:n≤ 1000
theorem jz.below{w w':World}{B b n:Nat}{f:Int→ Option Int}{ls:List aV}(h:jz w B b n f ls)(hb:Below w.heap.size w w'):jz w' B b n f ls:=⟨h.map.below hb h.map.lt,h.out,h.base,h.small⟩
def QN(w:World)(ls:List aV)(e:Ending)(w':World):Prop:= ∃b n f,e= .returned (.map (some b))∧jz w' w.heap.size b n f ls∧Below w.heap.size w w'
theorem uY(ls:List aV)(r:Raw)(w:World)(hl:ls.length= r.cG.n)(h64:ls.length≤ 1000)(hf:Fits ls)(hr:bF aJ w r.cG.a ls):
 Calls Tryz.prog 58 #[r.agg] w (QN w ls):=by
 obtain⟨term,ag,next,⟨a1,n1,c1⟩,⟨a,n,c⟩,⟨a3,n3,c3⟩,⟨a4,n4,c4⟩⟩:=r;simp only at hl hr;subst hl;have hmax:ls.length< maxLen:=by unfold maxLen;omega
 have hmm:= @run_makeMap Tryz.prog;have HF:=h_ hf;have gB:=h_ (fun id (k:Nat) (hk:k≤ ls.length)=>fM id (hf.sub (m:=ls.take k) (fun x hx=>List.mem_of_mem_take hx)));clear hf;go_enter Tryz.func58,Tryz.ntmps58;go_wp2;go_loopw [10] (fun i wr=>∃k: Nat,∃f,k≤ls.length∧ i= .int .i64 k∧Hid (∀id,(f id).getD 0=bV (ls.take k) id)∧Hid (iP BU 3 wr (w.heap.size+1) k f)∧Below w.heap.size w wr) (fun i _=>ls.length- (intOf i).toNat)
 case atStart=>exact ⟨0,fun _=>none,by omega,rfl,fun _=>rfl,by
  have h:=iP.made (K:=BU) (e:=3) (w.alloc (.cells (aw term ag next a1 n1 c1 a ls.length c a3 n3 c3 a4 n4 c4) 27));rw[World.size_alloc]at h
  exact h,aH⟩
 case round=>
  obtain⟨k,f,hk,rfl,hp,hm,hb⟩:=hrel;by_cases hlt:k< ls.length
  ·obtain⟨b,o,rfl,hcs⟩:=zE hr hlt;have hx:=hcs _ hb;have HT:=h_ (fun id=>CY hlt id);have HX:=h_ (HF ls[k] (List.getElem_mem hlt));have HW:=h_ (show(Lit.int .i64 ls[k].aC).wf=true from Bd (by have:=HX.out;omega) (by have:=HX.out;omega));have lX:=h_ (gB ls[k].aC k hk);have hlen:(ls.take k).length=k:= by simp;omega
   rw[hlen]at lX;generalize ls[k]=x at hx HT HW HX lX;have hmb:=hm.out.lt;clear hcs;have hv:∃z: Int,bV (ls.take k) x.aC=z:= ⟨_,rfl⟩;obtain⟨z,hz⟩:=hv;have HZ:=h_ hz;have hz1:0≤ z:=by rw[←hz];exact lX.1
   have hz2:z≤ 1000000000:=by have:=lX.2;omega
   obtain⟨_,_,hs1,hs2,hs3,hs4⟩:=HX.out;have HFZ:Hid ((f x.aC).getD 0=z):=by show _=_;rw[hp.out];exact hz
   clear hz;go_wp2_with(first|(refine nL BU Tryz.underlying100 Tryz.underlying3 Bg rfl (.tmp 14) (.tmp 16) rfl (w.heap.size+1) k f rfl (hm.out.alloc _) x.aC HW.out rfl ?_;rw[HFZ.out])|(refine lW BU Tryz.underlying100 Tryz.underlying3 rfl (.tmp 14) (.tmp 16) (.tmp 23) rfl (w.heap.size+1) k f rfl (hm.out.alloc _) o_ x.aC HW.out rfl (z+(x.size-x.bN)) (by go_num) (Bd o_ o_) ?_;intro w3 IX hg3));refine⟨⟨k+1,_,by omega,by go_num,fun id=> ?_,IX,(hb.alloc hb.size _).grown hg3 (by have:=hb.size;simp;omega) (fun _ h=>by cases h;exact Nat.le_succ _)⟩,by simp[intOf];omega⟩;rw[HT.out];unfold VM;by_cases e:id= x.aC
   ·subst e;rw[if_pos rfl,if_pos rfl,HZ.out];rfl
   ·rw[if_neg e,if_neg (fun h=>e h.symm),hp.out];omega
  ·obtain rfl:k= ls.length:=o_;have HT:Hid (∀id,(f id).getD 0=bV ls id):=fun id=>by rw[hp.out,List.take_length]
   go_wp2;go_returns;exact⟨w.heap.size+1,ls.length,f,rfl,⟨hm.out,HT.out,Nat.le_succ _,h64⟩,hb⟩
end Go.Proofs.YtfdmhpohfjbpfaaGreat
namespace Go.Proofs.YtfdmhpohfjbpfaaGreat
open Go.ChangeShapes Go.WideShapes Go.ChangeAt Go.RowKit
set_option maxRecDepth 100000
set_option maxHeartbeats 16000000
structure cx(B E:Nat)(w w':World):Prop where
 size:w.heap.size≤ w'.heap.size
 bY:∀k,B≤k→ k<E→ w'.heap[k]? =w.heap[k]?
theorem cx.refl(B E:Nat)(w:World):cx B E w w:=⟨Nat.le_refl _,fun _ _ _=>rfl⟩
theorem cx.trans{B E:Nat}{w w' w'':World}(h:cx B E w w')(h2:cx B E w' w''):cx B E w w'':=⟨Nat.le_trans h.size h2.size,fun k h1 h3=>(h2.bY k h1 h3).trans (h.bY k h1 h3)⟩
theorem cx.below{B E E':Nat}{w w':World}(h:Below E' w w')(hE:E≤ E'):cx B E w w':=⟨h.size,fun k _ h1=>h.block k o_⟩
theorem cx.next{B E E':Nat}{w w' w'':World}(h:cx B E w w')(h2:Below E' w' w'')(hE:E≤ E'):cx B E w w'':=h.trans (.below h2 hE)
theorem cx.setCell{B E:Nat}{w w':World}(h:cx B E w w')(p:Addr)(v:Value)(hp:p.block< B∨E≤ p.block):cx B E w (w'.setCell p v):=
 h.trans ⟨by simp,fun k h1 h2=>Below.heap_setCell _ _ _ _ o_⟩
theorem cx.other{B E:Nat}{w w' w'':World}{g:Nat}(h:cx B E w w')(hk:∀k,k≠g→ w''.heap[k]? =w'.heap[k]?)(hs:w''.heap.size= w'.heap.size)(hg:g< B∨E≤ g):cx B E w w'':=
 h.trans ⟨by omega,fun k h1 h2=>hk k o_⟩
theorem cx.drew{B E:Nat}{w w':World}(h:cx B E w w'):cx B E w w'.drew:=⟨h.size,h.bY⟩
theorem cx.alloc{B E:Nat}{w w':World}(h:cx B E w w')(hE:E≤ w'.heap.size)(o:Obj):cx B E w (w'.alloc o):=h.trans (.below (b_.alloc n_ o) hE)
theorem cx.up{B B' E:Nat}{w w':World}(h:cx B E w w')(hB:B≤ B'):cx B' E w w':=⟨h.size,fun k h1 h2=>h.bY k o_ h2⟩
theorem yU{w w':World}{B E B0:Nat}{e:TypeId}{size:Nat}{v:Value}{n:Nat}{xs:List Value}(h:w.ownsRow B0 e size v n xs)(hm:cx B E w w')(hB:B≤ B0)(hE:w.heap.size≤ E):w'.ownsRow B0 e size v n xs:=by
 obtain⟨h1,h2⟩:=h;refine⟨h1,?_⟩;rcases h2 with h2|⟨g,cap,cur,h3,h4,h5,h6⟩
 ·exact .inl h2
 ·refine .inr ⟨g,cap,cur,h3,h4,?_,h6⟩;rw[hm.bY g o_ (by have:=(Array.getElem?_eq_some_iff.1 h5).1;omega)];exact h5
theorem J9{w w':World}{B E:Nat}{a:Option Addr}{xs:List Value}(h:Row w a xs)(hm:cx B E w w')(hn:cg B none a)(hE:w.heap.size≤ E):Row w' a xs:=by
 by_cases h0:xs= []
 ·exact .inl h0
 ·rcases h with h|⟨b,o,rfl,hc⟩
  ·exact absurd h h0
  ·have hlt:=Row.lt (.inr ⟨b,o,rfl,hc⟩) h0;have hb:B≤ b:=by
    rcases hn b o none rfl with h1|⟨_,_,h1⟩
    ·exact h1
    ·cases h1
   exact .inr ⟨b,o,rfl,fun i hi=>by rw[World.cell?_of_block (w:=w) (hm.bY b hb o_)];exact hc i hi⟩
theorem nD{w w':World}{B E B0:Nat}{e:TypeId}{size:Nat}{a:Option Addr}{n c:Nat}{xs:List Value}(h:Can w B0 e size a n c xs)(hm:cx B E w w')(hn:cg B none a)(hB:B≤ B0)(hE:w.heap.size≤ E):Can w' B0 e size a n c xs:=
 ⟨h.1,h.2.1,h.2.2.imp (fun⟨h1,h2⟩=>⟨h1,J9 h2 hm hn hE⟩) (fun h=>yU h hm hB hE)⟩
section
variable {P:Program} {e:TypeId} {α:Type} {L:iW P e α} {w w':World} {B E B0:Nat} {s:sH} {xs:List α}
theorem cK.eH(h:cK L w B0 s xs)(hm:cx B E w w')(hB:B≤ B0)(hE:w.heap.size≤ E):cK L w' B0 s xs:=⟨h.len,h.le,h.nil,h.eZ,J9 h.row hm (h.eZ.mono hB) hE⟩
theorem fQ.eH(h:fQ L w B0 s xs)(hn:cg B0 none s.a)(hm:cx B E w w')(hB:B≤ B0)(hE:w.heap.size≤ E):fQ L w' B0 s xs:=⟨nD h.can hm (hn.mono hB) hB hE,fun h0=>yU (h.own h0) hm hB hE⟩
theorem cK.kK{a:Option Addr}{c:Nat}(hpos:0< L.size)(hn:cg B none a)(hc:Can w B e L.size a xs.length c (xs.flatMap L.cells)):cK L w B ⟨a,xs.length,c⟩ xs:=
 ⟨rfl,hc.le,hc.none hpos,hn,hc.row⟩
end
def Ap(a b:Option Addr):Prop:= ∀x o q x' o' q',a=some ⟨x,o,q⟩→b= some ⟨x',o',q'⟩→x≠ x'
theorem Ap.of{a b:Option Addr}{E E':Nat}(h:∀x o q,a=some ⟨x,o,q⟩→x< E)(h2:cg E' none b)(hE:E≤ E'):Ap a b:=fun x o q x' o' q' h1 h3=>by
 have:=h x o q h1;rcases h2 x' o' q' h3 with h4|⟨_,_,h4⟩
 ·omega
 ·cases h4
theorem Ap.symm{a b:Option Addr}(h:Ap a b):Ap b a:=fun x o q x' o' q' h1 h2 e=>h x' o' q' x o q h2 h1 e.symm
structure mN(w:World)(B:Nat)(r:Raw)(s:St):Prop where
 is:aX w B r s
 cD:fQ aT w B r.cD s.ax
 cG:fQ aJ w B r.cG s.ai
 tl:Ap r.cD.a r.cG.a
 ts:Ap r.cD.a r.eY.a
 td:Ap r.cD.a r.ft.a
 ls:Ap r.cG.a r.eY.a
 ld:Ap r.cG.a r.ft.a
 lt:∀x o q,r.cG.a=some ⟨x,o,q⟩→x< w.heap.size
theorem gI.eH{w w':World}{B B0 E:Nat}{s:sH}{xs:List bR}(h:gI w B0 s xs)(hm:cx B E w w')(hB:B≤ B0)(hE:w.heap.size≤ E):gI w' B0 s xs:=h.same (h.tocK.eH hm hB hE) hm.size fun g _ _ h1 h2=>hm.bY g o_ o_
theorem aX.eH{w w':World}{B B0 E:Nat}{r:Raw}{s:St}(h:aX w B0 r s)(hm:cx B E w w')(hB:B≤ B0)(hE:w.heap.size≤ E):aX w' B0 r s:=
 ⟨h.term,h.ag,h.next,h.cD.eH hm hB hE,h.cG.eH hm hB hE,h.eY.eH hm hB hE,h.ft.eH hm hB hE⟩
theorem mN.eH{w w':World}{B B0 E:Nat}{r:Raw}{s:St}(h:mN w B0 r s)(hm:cx B E w w')(hB:B≤ B0)(hE:w.heap.size≤ E):mN w' B0 r s:=
 ⟨h.is.eH hm hB hE,h.cD.eH h.is.cD.eZ hm hB hE,h.cG.eH h.is.cG.eZ hm hB hE,h.tl,h.ts,h.td,h.ls,h.ld,fun x o q e=>Nat.lt_of_lt_of_le (h.lt x o q e) hm.size⟩
theorem mN.base{w:World}{B B0:Nat}{r:Raw}{s:St}(h:mN w B r s)(hB:B0≤ B):mN w B0 r s:=⟨h.is.mono hB,h.cD.base hB,h.cG.base hB,h.tl,h.ts,h.td,h.ls,h.ld,h.lt⟩
def Dz(w:World)(s:St)(e:Ending)(w':World):Prop:= ∃r,e= .returned (Raw.agg r)∧mN w' w.heap.size r s∧Below w.heap.size w w'
theorem nM{P:Program}{e:TypeId}{α:Type}{ops:Array Oper}{rest:List Oper}{op:Oper}{a:Act}{w:World}{Q:Exit→ Act→World→ Prop}(L:iW P e α)(hgd:op.guard= none)(x y:Operand)(ho:op.op= .store e x y)(b o:Nat)(z:α)(hx:a.eval x= .pointer (some ⟨b,o,none⟩))(hy:a.eval y=L.val z)(ht:w.there b o L.size)(h:∀w',w'.rangeAt b o (L.cells z)→w'.there b o L.size→(∀B,B≤b→ Below B w w')→w'.heap.size= w.heap.size→(∀k,k≠b→ w'.heap[k]? =w.heap[k]?)→wpList P ops Q rest (a.put op.dst undef) w'):wpList P ops Q (op::rest) a w:=
 fY L hgd x y ho b o z hx hy ht (h _ (sx z ht) (World.there_setCells ht _ _ _) (fun _ hB=>Below.setCells hB _ _ b_) (dW _ _ _ _) (fun k hk=>dh b _ _ _ k hk))
structure aU(w:World)(g:Nat)(cs:List Value):Prop where
 range:w.rangeAt g 0 cs
 there:w.there g 0 cs.length
theorem aU.cell{w:World}{g:Nat}{cs:List Value}(h:aU w g cs){j:Nat}{v:Value}(hj:cs[j]? =some v):w.cell? ⟨g,j,none⟩=some v:=by
 have:=h.range j v hj;rw[Nat.zero_add]at this;exact this
theorem aU.cu{w:World}{g:Nat}{cs:List Value}(h:aU w g cs){j:Nat}(hj:j< cs.length):w.frozen? ⟨g,j,none⟩=false:= by
 have:=(h.there j hj).2;rw[Nat.zero_add]at this;exact this
theorem aU.aR{w w':World}{cs:List Value}{t:TypeId}(hb:Below (w.alloc (.cells cs.toArray t)).heap.size (w.alloc (.cells cs.toArray t)) w'):aU w' w.heap.size cs:=
 ⟨jY hb,by have:=oI hb;simpa using this⟩
theorem aU.cn{w w':World}{o:Obj}{cs:List Value}{t:TypeId}(hb:Below ((w.alloc o).alloc (.cells cs.toArray t)).heap.size ((w.alloc o).alloc (.cells cs.toArray t)) w'):aU w' (w.heap.size+1) cs:=by
 have:=aU.aR hb;rw[World.size_alloc]at this;exact this
theorem aU.dR{w w':World}{o o':Obj}{cs:List Value}{t:TypeId}(hb:Below (((w.alloc o).alloc o').alloc (.cells cs.toArray t)).heap.size (((w.alloc o).alloc o').alloc (.cells cs.toArray t)) w'):aU w' (w.heap.size+1+ 1) cs:=by
 have:=aU.aR hb;rw[World.size_alloc,World.size_alloc]at this;exact this
theorem aU.lt{w:World}{g:Nat}{cs:List Value}(h:aU w g cs)(h0:0< cs.length):g< w.heap.size:=World.block_lt_of_cell? w _ (h.cell (List.getElem?_eq_getElem h0))
theorem aU.block{w w':World}{g:Nat}{cs:List Value}(h:aU w g cs)(hg:w'.heap[g]? =w.heap[g]?):aU w' g cs:=
 ⟨fun j v hj=>by rw[World.cell?_of_block (w:=w) hg];exact h.range j v hj,fun j hj=>by
  have:=h.there j hj;refine⟨by rw[World.cell?_of_block (w:=w) hg];exact this.1,?_⟩;have h2:=this.2;simp only[World.frozen?]at h2 ⊢
  rw[hg];exact h2⟩
theorem aU.below{w w':World}{g:Nat}{cs:List Value}{B:Nat}(h:aU w g cs)(hb:Below B w w')(hg:g< B):aU w' g cs:=h.block (hb.block g hg)
theorem aU.next{w w':World}{g:Nat}{cs:List Value}(h:aU w g cs)(h0:0< cs.length)(hb:Below w.heap.size w w'):aU w' g cs:=h.below hb (h.lt h0)
theorem aU.drew{w:World}{g:Nat}{cs:List Value}(h:aU w g cs):aU w.drew g cs:=h.block rfl
theorem aU.set{w:World}{g i:Nat}{cs:List Value}(h:aU w g cs)(hi:i< cs.length)(v:Value):aU (w.setCell ⟨g,i,none⟩ v) g (cs.set i v):=by
 have Wn:=h.cell (List.getElem?_eq_getElem hi);refine⟨fun j u hj=> ?_,fun j hj=> ?_⟩
 ·rw[Nat.zero_add];by_cases e:i= j
  ·subst e;rw[List.getElem?_set_self hi]at hj;rw[←hj];exact World.cell?_setCell_same _ _ _ Wn
  ·rw[List.getElem?_set_ne e]at hj;rw[World.cell?_setCell_other w _ _ v (fun h=>e (congrArg Addr.off h))];exact h.cell hj
 ·rw[List.length_set]at hj;refine⟨?_,?_⟩
  ·rw[Nat.zero_add];by_cases e:i= j
   ·subst e;rw[World.cell?_setCell_same _ _ _ Wn];rfl
   ·rw[World.cell?_setCell_other w _ _ v (fun h=>e (congrArg Addr.off h)),h.cell (List.getElem?_eq_getElem hj)];rfl
  ·rw[World.frozen?_setCell];exact(h.there j hj).2
theorem aU.lY{w:World}{g:Nat}{cs:List Value}(h:aU w g cs){p:Addr}(hp:p.block≠ g)(v:Value):aU (w.setCell p v) g cs:=h.block (Below.heap_setCell _ _ _ _ (fun e=>hp e.symm))
abbrev RY(w:World)(g:Nat)(r:Raw):Prop:= (w.cell? ⟨g,0,none⟩=some (.int .i64 r.term)∧w.cell? ⟨g,1,none⟩=some (.int .i64 r.ag)∧w.cell? ⟨g,2,none⟩=some (.int .i64 r.next)∧
 w.cell? ⟨g,3,none⟩=some (.slice r.cD.a r.cD.n r.cD.c)∧w.cell? ⟨g,4,none⟩=some (.slice r.cG.a r.cG.n r.cG.c)∧w.cell? ⟨g,5,none⟩=some (.slice r.eY.a r.eY.n r.eY.c)∧w.cell? ⟨g,6,none⟩=some (.slice r.ft.a r.ft.n r.ft.c))∧
 (w.frozen? ⟨g,0,none⟩=false∧ w.frozen? ⟨g,1,none⟩=false∧ w.frozen? ⟨g,2,none⟩=false∧ w.frozen? ⟨g,3,none⟩=false∧ w.frozen? ⟨g,4,none⟩=false∧ w.frozen? ⟨g,5,none⟩=false∧ w.frozen? ⟨g,6,none⟩=false)∧g< w.heap.size
theorem aU.st{w:World}{g:Nat}{r:Raw}(h:aU w g r.cells):RY w g r:=
 ⟨bP h.range,⟨h.cu (by simp),h.cu (by simp),h.cu (by simp),h.cu (by simp),h.cu (by simp),h.cu (by simp),h.cu (by simp)⟩,h.lt (by simp)⟩
section
variable {P:Program} {e:TypeId} {α:Type}
structure dt(g:Nat)(w w':World):Prop where
 below:∀B,B≤g→ Below B w w'
 size:w'.heap.size= w.heap.size
 bY:∀k,k≠g→ w'.heap[k]? =w.heap[k]?
theorem aU.wrote{w w':World}{g g':Nat}{cs:List Value}(h:aU w g cs)(hw:dt g' w w')(hne:g≠ g'):aU w' g cs:=h.block (hw.bY g hne)
theorem cx.wrote{B E g:Nat}{w w' w'':World}(h:cx B E w w')(hw:dt g w' w'')(hg:g< B∨E≤ g):cx B E w w'':=h.other hw.bY hw.size hg
theorem av{ops:Array Oper}{rest:List Oper}{op:Oper}{a:Act}{w:World}{Q:Exit→ Act→World→ Prop}(L:iW P e α)(hgd:op.guard= none)(x y:Operand)(ho:op.op= .store e x y)(g:Nat)(z:α)(cs:List Value)(hx:a.eval x= .pointer (some ⟨g,0,none⟩))(hy:a.eval y=L.val z)(hb:aU w g cs)(hl:cs.length= L.size)(h:∀w',aU w' g (L.cells z)→dt g w w'→wpList P ops Q rest (a.put op.dst undef) w'):wpList P ops Q (op::rest) a w:=
 nM L hgd x y ho g 0 z hx hy (by rw[←hl];exact hb.there) (fun w' h1 h2 h3 h4 h5=>h w' ⟨h1,by rw[L.len];exact h2⟩ ⟨h3,h4,h5⟩)
theorem bE{ops:Array Oper}{rest:List Oper}{op:Oper}{a:Act}{w:World}{Q:Exit→ Act→World→ Prop}{t:TypeId}(hgd:op.guard= none)(x y:Operand)(ho:op.op= .store t x y)(hi:(P.info? t).map (·.size)=some 1)(g i:Nat)(cs:List Value)(v:Value)(hx:a.eval x= .pointer (some ⟨g,i,none⟩))(hy:a.eval y=v)(hv:v.cells= #[v])(h1:v.oneCell'= true)(hb:aU w g cs)(hlt:i< cs.length)(h:∀w',aU w' g (cs.set i v)→dt g w w'→wpList P ops Q rest (a.put op.dst undef) w'):wpList P ops Q (op::rest) a w:=
 wpList_plain hgd fun K hK=>by
  have Ae:w.there g i 1:=fun j hj=>by
   have:=hb.there i hlt;obtain rfl:j= 0:=o_;rw[Nat.zero_add]at this;exact this
  have hrun:(storeVar t ⟨g,i,none⟩ v).run P w= .ok () (w.setCell ⟨g,i,none⟩ v):=by
   have:=run_storeCells_cells (P:=P) g i [v] 0 w (fun j hj=>by simpa using (Ae j (by simpa using hj)).1) (fun j hj=>by simpa using (Ae j (by simpa using hj)).2) (fun u hu=>by simp at hu;subst hu;exact h1);cases hq:P.info? t with
   |none=> simp[hq]at hi
   |some q=>
    have hs:q.size= 1:=by simpa[hq]using hi
    simp only[Nat.add_zero]at this;simp[storeVar,sizeOf,typeInfo,hq,hv,hs,this,World.setCells]
  unfold Oper.wp execOp;simp only[ho,hx,hy,Instr.storeAt,Instr.sureAddr,Sem.run_bind,Sem.run_pure,Result.andThen_ok,hrun];exact hK _ _ (h _ (hb.set hlt v) ⟨fun B hB=>(Below.refl B w).setCell (p:=⟨g,i,none⟩) hB v,by simp,fun k hk=>Below.heap_setCell _ _ _ _ (fun e=>hk e)⟩)
end
theorem cF:(Tryz.prog.info? 23).map (·.size)=some 1∧(Tryz.prog.info? 22).map (·.size)=some 1∧(Tryz.prog.info? 3).map (·.size)=some 1:=⟨by kernel_rfl,by kernel_rfl,by kernel_rfl⟩
structure dF(g:Nat)(w w':World):Prop where
 os:w'.os= w.os
 tape:w'.tape= w.tape
 output:w'.output= w.output
 size:w.heap.size≤ w'.heap.size
 block:∀k,k<w.heap.size→ k≠g→ w'.heap[k]? =w.heap[k]?
theorem dF.refl(g:Nat)(w:World):dF g w w:=⟨rfl,rfl,rfl,Nat.le_refl _,fun _ _ _=>rfl⟩
theorem dF.trans{g:Nat}{w w' w'':World}(h:dF g w w')(h2:dF g w' w''):dF g w w'':=
 ⟨h2.os.trans h.os,h2.tape.trans h.tape,h2.output.trans h.output,Nat.le_trans h.size h2.size,fun k h1 h3=>(h2.block k (Nat.lt_of_lt_of_le h1 h.size) h3).trans (h.block k h1 h3)⟩
theorem dF.of{g:Nat}{w w':World}(h:Below w.heap.size w w'):dF g w w':=⟨h.os,h.tape,h.output,h.size,fun k hk _=>h.block k hk⟩
theorem dF.next{g:Nat}{w w' w'':World}(h:dF g w w')(h2:Below w'.heap.size w' w''):dF g w w'':=h.trans (.of h2)
theorem dF.put{g:Nat}{w w' w'':World}(h:dF g w w')(h2:∀B,B≤g→ Below B w' w'')(hk:∀k,k≠g→ w''.heap[k]? =w'.heap[k]?):dF g w w'':=
 h.trans ⟨(h2 0 (Nat.zero_le _)).os,(h2 0 (Nat.zero_le _)).tape,(h2 0 (Nat.zero_le _)).output,(h2 0 (Nat.zero_le _)).size,fun k _ hne=>hk k hne⟩
theorem dF.below{g:Nat}{w w':World}(h:dF g w w'){B:Nat}(hB:B≤ g)(hs:B≤ w.heap.size):Below B w w':=⟨h.os,h.tape,h.output,h.size,fun k hk=>h.block k o_ o_⟩
section
variable {P:Program} {e:TypeId} {α:Type}
theorem uq{ops:Array Oper}{rest:List Oper}{op:Oper}{a:Act}{w:World}{Q:Exit→ Act→World→ Prop}(L:iW P e α)(hgd:op.guard= none)(x y:Operand)(ho:op.op= .store e x y){B g o:Nat}{xs:List α}(hm:dM L w B g o xs)(k:Nat)(hk:k< xs.length)(z:α)(hx:a.eval x= .pointer (some ⟨g,o+k* L.size,none⟩))(hy:a.eval y=L.val z)(h:∀w',dM L w' B g o (xs.set k z)→dF g w w'→w'.heap.size= w.heap.size→wpList P ops Q rest (a.put op.dst undef) w'):wpList P ops Q (op::rest) a w:=
 fY L hgd x y ho g (o+k* L.size) z hx hy (hm.there hk) (h _ (hm.set hk z) ((dF.refl g w).put (fun _ hB=>Below.setCells hB _ _ b_) (fun k hk=>dh g _ _ _ k hk)) (dW _ _ _ _))
theorem uo{ops:Array Oper}{rest:List Oper}{op:Oper}{a:Act}{w:World}{Q:Exit→ Act→World→ Prop}(L:iW P e α){t:TypeId}(ht:P.underlying t=some (.slice e))(hgd:op.guard= none)(s:Operand)(ho:op.op= .call {callee:= .builtin .clear,args:= #[s],argTypes:= #[t]}){B g o:Nat}{xs:List α}(hm:dM L w B g o xs)(k:Nat)(hk:k≤ xs.length)(n c:Nat)(hn:n+ k=xs.length)(hs:a.eval s= .slice (some ⟨g,o+k* L.size,none⟩) n c)(h:∀w',dM L w' B g o (xs.take k)→dF g w w'→w'.heap.size= w.heap.size→wpList P ops Q rest (a.put op.dst (.tuple #[])) w'):wpList P ops Q (op::rest) a w:=by
 have Ae:w.there g (o+k* L.size) (n*L.size):=fun j hj=>by
  have:=hm.2.2 (k*L.size+ j) (by rw[←hn,Nat.add_mul];omega);rw[Nat.add_assoc];exact this
 refine lD L ht hgd s ho g (o+k* L.size) n c hs Ae fun zs _=>h _ ?_ ((dF.refl g w).put (fun _ hB=>Below.setCells hB _ _ b_) (fun k hk=>dh g _ _ _ k hk)) (dW _ _ _ _)
 have h1:=hm.take k;refine⟨h1.1,World.rangeAt_setCells_apart h1.2.1 _ _ _ (.inr (.inl ?_)),World.there_setCells h1.2.2 _ _ _⟩;rw[L.length,List.length_take,Nat.min_eq_left hk];omega
theorem dM.only{L:iW P e α}{w w':World}{B g o g':Nat}{xs:List α}(h:dM L w B g o xs)(hb:Below w.heap.size w w')(hg:g< w.heap.size):dM L w' B g o xs:=h.below hb hg
end
end Go.Proofs.YtfdmhpohfjbpfaaGreat
