import Derived.Deep.Cut
import Derived.Laws.BytesArg
import Derived.Laws.IdiomStrings
import Derived.Test.YtoeofkcpclfnhaaGreatSr08
import Derived.Test.YtoeofkcpclfnhaaGreatSr03
import Derived.Test.YtoeofkcpclfnhaaGreatSrFolTold
set_option linter.unusedVariables false
set_option linter.unusedSimpArgs false
namespace Go.Proofs.YtoeofkcpclfnhaaGreat
open Go.ChangeShapes Go.WideShapes Go.ChangeAt Go.RowKit
set_option maxRecDepth 100000
set_option maxHeartbeats 16000000
def putF:List Prg→Prg→ List Prg
 |[],p=>[p]
 |x:: l,p=>if x.node=p.node then p::l else x::putF l p
theorem putF_none{l:List Prg}{p:Prg}(h:∀x∈ l,¬x.node= p.node):putF l p=l++ [p]:=by
 induction l with
 |nil=> rfl
 |cons x l ih=>
  show(if x.node=p.node then _ else _)=_
  rw[if_neg (h x (List.mem_cons_self ..)),ih (fun y hy=>h y (List.mem_cons_of_mem _ hy))];rfl
theorem putF_at{l:List Prg}{p:Prg}:∀ {k:Nat} (hk:k< l.length),l[k].node=p.node→ (∀j (h:j< l.length),j<k→ ¬l[j].node=p.node)→putF l p=l.set k p:=by
 induction l with
 |nil=> intro k hk;exact absurd hk (Nat.not_lt_zero _)
 |cons x l ih=>
  intro k hk h hno;show(if x.node=p.node then _ else _)=_
  cases k with
  |zero=> rw[if_pos (show x.node=p.node from h)];rfl
  |succ k=>
   rw[if_neg (show ¬x.node= p.node from hno 0 (by simp) o_),ih (by simpa using hk) h (fun j hj hjk=>hno (j+1) (by simpa using hj) o_)];rfl
theorem el_prg:Elem Tryz.prog 69 116 3 24:=layPrg.elem Tryz.underlying69
theorem Can.next'{w w':World}{B n c:Nat}{e:TypeId}{size:Nat}{a:Option Addr}{xs:List Value}(h:Can w B e size a n c xs)(hb:Below w.heap.size w w'):Can w' B e size a n c xs:=
 ⟨h.1,h.2.1,h.2.2.imp (fun h1=>⟨h1.1,Row.below h1.2 hb⟩) (fun h1=>own_mid (B:=0) h1 (Mid.below hb n_) (Nat.zero_le _) n_)⟩
def RetCl(w:World)(l:List Prg)(e:Ending)(w':World):Prop:= ∃g c3,e= .returned (.slice (some ⟨g,0,none⟩) l.length c3)∧w.heap.size≤ g∧Mine layPrg w' w.heap.size g 0 l∧l.length≤ c3∧Below w.heap.size w w'
theorem cloneMine{w:World}{l:List Prg}(h0:0< l.length){e:Ending}{w':World}(h:RetOwnPrg w l e w'):RetCl w l e w':=by
 obtain⟨a3,c3,he,-,-,hown,-,hb⟩:=h
 obtain⟨g,rfl,hB,-⟩:=own_head (hown h0) (by
  intro h1;have h2:=congrArg List.length h1;rw[layPrg.length]at h2;have:layPrg.size= 3:=rfl;rw[this]at h2
  simp at h2;omega)
 exact⟨g,c3,he,hB,Mine.of_own (hown h0),OwnP.cap (hown h0),hb⟩
theorem put_any(l:List Prg)(p:Prg)(a:Option Addr)(n c:Nat)(w:World)(hn:l.length= n)(hl:n≤ 1000000)(hc:a= none→c= 0)(hnc:n≤ c)(hr:LRow layPrg w a l):
 Calls Tryz.prog 67 #[.slice a n c,p.agg] w (RetRowP w (putF l p)):=by
 obtain⟨p0,p1,p2⟩:=p;have HB0:Hid (Below w.heap.size w (w.alloc (.cells #[.int .i64 p0,.int .i64 p1,.int .i64 p2] 116))):=mid_alloc' b_;have HX0:Hid (Box (w.alloc (.cells #[.int .i64 p0,.int .i64 p1,.int .i64 p2] 116)) w.heap.size [.int .i64 p0,.int .i64 p1,.int .i64 p2]):=Box.of_alloc (w:=w) (cs:=[.int .i64 p0,.int .i64 p1,.int .i64 p2]) (t:=116) b_;have HCL:=h_ (fun w' (hb:Below w.heap.size w w')=>clonePrg l a n c w' hn (by show n*24≤ _;omega) (by unfold maxLen;omega) hc hnc (LRow.below hr hb));have HO:=h_ (fun w'=>of_any p0 w');have HXF:=h_ (fun a3 c3 g w' (hr3:LRow layPrg w' a3 l) (hg:w'.cell? ⟨g,0,none⟩=some (.int .i64 p0))=>indexFuncPrg l a3 l.length c3 101 #[.pointer (some ⟨g,0,none⟩)] (fun x=>decide (x.node=p0)) w' rfl (by unfold maxLen;omega) hr3 enter_ofc (fun x _ w'' hb2=>(ofc_any x g p0 w'' (cell_next hb2 hg)).mono fun _ _ h=>h));have HWY:=h_ (idxL_ways (fun x:Prg=> decide (x.node=p0)) l);obtain⟨q,hq⟩:∃q,idxL (fun x:Prg=> decide (x.node=p0)) l=q:= ⟨_,rfl⟩;rw[hq]at HXF HWY;obtain⟨r,hrr⟩:∃r,putF l ⟨p0,p1,p2⟩=r:= ⟨_,rfl⟩;rw[hrr];have HLN:Hid (l.length=n):=hn;rcases HWY.out with⟨h1,h2⟩|⟨k,hk,h1,h2,h3⟩
 ·have er:r= l++[⟨p0,p1,p2⟩]:=by rw[←hrr];exact putF_none (fun x hx=>of_decide_eq_false (h2 x hx))
  clear hrr hq h2 hr hn HWY hc hnc;subst h1 er;go_enter Tryz.func67,Tryz.ntmps67;go_wp2_with(first|(have hgq:=HCAN4;clear hgq;at_builtin;(refine wpList_can el_prg rfl (.tmp 21) (.tmp 23) rfl (w.heap.size+1) a3 l.length c3 (l.flatMap layPrg.cells) rfl (HCAN4.alloc _) (some ⟨w4.heap.size,0,none⟩) 1 1 [.int .i64 p0,.int .i64 p1,.int .i64 p2] rfl rfl (Row.new _ _ _ _) (by simp[Value.oneCell']) (by have:=HLN.out;omega) (Nat.le_trans (HX4.lt (by simp)) (by simp)) ?_);intro a6 c6 w6 hcan6 _ hb6 hown6;have HOW6:=h_ (hown6.1 d_);clear hown6;have HCAN6:=h_ hcan6;have HB6:=h_ (HB4.trans (((Below.refl w.heap.size w4).alloc HB4.size _).trans (hb6.mono (Nat.le_succ _))));clear hcan6 hb6)|(have hgq:=HOC;clear hgq;go_at_call 94;((with_reducible refine(HXF.out _ _ _ _ HCAN3.out.row HOC.out).mono ?_);rintro e w4 ⟨rfl,hb⟩;have HCAN4:=h_ (HCAN3.next' hb);have HB4:=h_ (HB3.trans (hb.mono HB3.size));have HX4:=h_ (HX3.next (by simp) hb);have k0:=HX4.cell (j:=0) rfl;have k1:=HX4.cell (j:=1) rfl;have k2:=HX4.cell (j:=2) rfl;clear hb))|(have hgq:=HCAN2;clear hgq;go_at_call 95;((with_reducible refine(HO.out _).mono ?_);rintro e w3 ⟨rfl,hw⟩;have hbz:Below w2.heap.size w2 w3:=by {rw[hw];exact b_.alloc n_ _};have HOC:Hid (w3.cell? ⟨w2.heap.size,0,none⟩=some (.int .i64 p0)):=by {show _=_;rw[hw];simp};have HCAN3:=h_ (HCAN2.next' hbz);have HB3:=h_ (HB2.trans (hbz.mono HB2.size));have HX3:=h_ (HX2.next (by simp) hbz);clear hw hbz j0))|(go_at_call 93;((with_reducible refine(HCL.out _ HB0.out).mono ?_);rintro e w2 ⟨a3,c3,rfl,hnear,hcan,hown,hlt,hb⟩;rw[World.size_alloc]at hcan hown;have HOWN2:=h_ hown;have HCAN2:=h_ hcan;have HB2:=h_ (HB0.trans (hb.mono HB0.size));have HX2:=h_ (HX0.next (by simp) hb);have j0:=HX2.cell (j:=0) rfl;clear hnear hcan hown hlt hb)));go_ret;exact⟨a6,c6,by rw[List.length_append];rfl,by(show Row _ _ _);rw[List.flatMap_append];exact HCAN6.row,HB6.out,by rw[List.length_append];exact HCAN6.le,fun _ b o s e=>Nat.le_trans (Nat.le_succ _) (own_block HOW6.out b o s e),HCAN6.none d_⟩
 ·have er:r= l.set k ⟨p0,p1,p2⟩:=by rw[←hrr];exact putF_at hk (of_decide_eq_true h2) (fun j hj hjk=>of_decide_eq_false (h3 j hj hjk))
  have HCM:=h_ (fun w' (hb:Below w.heap.size w w')=>(HCL w' hb).mono (fun _ _ h=>cloneMine (show 0<l.length by omega) h));have hkn:(k:Int)<(l.length:Int):=o_;have hk0:(0:Int)≤(k:Int):=o_;have HKL:=h_ hk;clear hrr hq h2 h3 hr hn HWY hc hnc HCL;subst h1 er;go_enter Tryz.func67,Tryz.ntmps67;go_wp2_with(first|(have hgq:=HM4;clear hgq;refine wpList_store_mine layPrg rfl (.tmp 19) (.tmp 18) rfl (o:=0) HM4.out k HKL.out ⟨p0,p1,p2⟩ (by rw[Nat.zero_add];rfl) rfl ?_;intro w6 hm6 hb6 hs6;have HM6:=h_ hm6;have HB6:=h_ (HB4.trans (hb6 w.heap.size (Nat.le_of_lt HGB.out)));clear hm6 hb6 hs6)|(have hgq:=HOC;clear hgq;go_at_call 94;((with_reducible refine(HXF.out _ _ _ _ HM3.out.row HOC.out).mono ?_);rintro e w4 ⟨rfl,hb⟩;have HM4:=h_ (HM3.below hb (HM3.lt HNE.out));have HB4:=h_ (HB3.trans (hb.mono HB3.size));have HX4:=h_ (HX3.next (by simp) hb);have k0:=HX4.cell (j:=0) rfl;have k1:=HX4.cell (j:=1) rfl;have k2:=HX4.cell (j:=2) rfl;clear hb))|(have hgq:=HM2;clear hgq;go_at_call 95;((with_reducible refine(HO.out _).mono ?_);rintro e w3 ⟨rfl,hw⟩;have hbz:Below w2.heap.size w2 w3:=by {rw[hw];exact b_.alloc n_ _};have HOC:Hid (w3.cell? ⟨w2.heap.size,0,none⟩=some (.int .i64 p0)):=by {show _=_;rw[hw];simp};have HNE:Hid (l≠[]):=by {intro h0;have:=HKL.out;rw[h0]at this;exact absurd this (Nat.not_lt_zero _)};have HM3:=h_ (HM2.below hbz (HM2.lt HNE.out));have HB3:=h_ (HB2.trans (hbz.mono HB2.size));have HX3:=h_ (HX2.next (by simp) hbz);clear hw hbz j0))|(go_at_call 93;((with_reducible refine(HCM.out _ HB0.out).mono ?_);rintro e w2 ⟨g,c3,rfl,hg,hm,hlc,hb⟩;rw[World.size_alloc]at hg hm;have HM2:=h_ hm;have HGB:Hid (w.heap.size<g):=hg;have HLC:=h_ hlc;have HB2:=h_ (HB0.trans (hb.mono HB0.size));have HX2:=h_ (HX0.next (by simp) hb);have j0:=HX2.cell (j:=0) rfl;clear hg hm hlc hb)));go_ret;exact⟨some ⟨g,0,none⟩,c3,by rw[List.length_set];rfl,HM6.row,HB6.out,by rw[List.length_set];exact HLC.out,fun _ b o s e=>by (simp only[Option.some.injEq,Addr.mk.injEq]at e;rw[←e.1];exact Nat.le_of_lt HGB.out),fun h=>by cases h⟩
theorem conv_bytes{a:Option Addr}{l:List UInt8}{n c:Nat}{w:World}(hr:RowB w a l)(hn:l.length= n):(convert 45 9 (.slice a n c)).run Tryz.prog w= .ok (.string ⟨l.toArray⟩) w:=by
 subst hn;cases a with
 |none=>
  have h0:l= []:=by
   rcases hr with h|⟨b,o,h,_⟩
   ·simpa using h
   ·cases h
  subst h0;exact run_convert_bytes_nil (w:=w) 45 5 Tryz.underlying45 Tryz.underlying5 _ _ 9 Tryz.underlying9
 |some ad=>
  refine run_convert_bytes_back w 45 9 5 ad c l Tryz.underlying45 Tryz.underlying5 Tryz.underlying9 fun j hj=> ?_
  exact hr.holds j _ (by rw[List.getElem?_map,List.getElem?_eq_getElem hj];rfl)
structure RowEs(w:World)(a:Option Addr)(es:List RwE):Prop where
 row:Row w a (es.flatMap cellsRw)
 each:∀y∈ es,RowB w y.2.1 y.1.data
theorem RowEs.below{w w':World}{a:Option Addr}{es:List RwE}(h:RowEs w a es)(hb:Below w.heap.size w w'):RowEs w' a es:=⟨h.row.below hb,fun y hy=>(h.each y hy).below hb⟩
def fromF(b t:Int)(es:List WEnt)(i most:Int):List WEnt×Int:=
 if okR b t es=true then(if i≤b∨ b+es.length+ 1<i then([],4)else((es.drop (i-b- 1).toNat).take (cl 0 16 most).toNat,0))else([],90)
def RetFrom(w:World)(r:List WEnt×Int)(e:Ending)(w':World):Prop:= ∃(a:Option Addr) (c:Nat) (fs:List RwE),e= .returned (.tuple #[.slice a fs.length c,.int .i64 r.2])∧ents fs=r.1∧ Row w' a (fs.flatMap cellsRw)∧(∀y∈ fs,RowB w' y.2.1 y.1.data)∧Below w.heap.size w w'∧NewE w.heap.size a c fs
theorem newE_nil(B:Nat):NewE B none 0 []:=⟨fun h=>absurd rfl h,Nat.le_refl _,Nat.zero_le _,fun _=>rfl,fun y hy=>by cases hy⟩
abbrev GoodE(w:World)(y:RwE):Prop:= RowB w y.2.1 y.1.data∧y.1.data.length≤ 1000000∧y.1.data.length≤ y.2.2∧(y.2.1=none→ y.2.2=0)
theorem ents_cut(es:List RwE)(k m:Nat):ents ((es.drop k).take m)=((ents es).drop k).take m:=by
 show((es.drop k).take m).map Prod.fst=_
 rw[List.map_take,List.map_drop]
theorem from_row{w:World}{b o:Nat}{es:List RwE}(h:Row w (some ⟨b,o,none⟩) (es.flatMap cellsRw))(k m:Nat):Row w (some ⟨b,o+k* 5,none⟩) (((es.drop k).take m).flatMap cellsRw):=
 LRow.take (L:=layRw) (LRow.drop (L:=layRw) h k) m
theorem copied_cut(es:List RwE)(b o:Nat)(k m:Nat)(w:World)(L:Nat)(hL:((es.drop k).take m).length=L)(h0:0< L)(hl:es.length≤ 1000000)(hle:∀y∈ es,GoodE w y)(hr:Row w (some ⟨b,o,none⟩) (es.flatMap cellsRw)):
 Calls Tryz.prog 89 #[.slice (some ⟨b,o+k* 5,none⟩) L L] w (RetCpN w ((es.drop k).take m)):=
 copied_new _ _ L L w hL (by rw[←hL];exact Nat.le_trans (List.length_take_le' _ _) (Nat.le_trans (by rw[List.length_drop];omega) hl)) (fun h=>by cases h) n_ (fun y hy=>hle y (List.mem_of_mem_drop (List.mem_of_mem_take hy))) (from_row hr k m)
theorem copied_nil(a:Option Addr)(w:World):Calls Tryz.prog 89 #[.slice a 0 0] w (RetCpN w []):=
 copied_new [] a 0 0 w rfl d_ (fun _=>rfl) n_ (fun y hy=>by cases hy) (.inl rfl)
theorem tq19 {P:Prop}(h:P:=by
 have HCM:=h_ (HCN rfl);clear HCN;clear hM hMn hm0 hal hKn;go_enter Tryz.func99,Tryz.ntmps99;go_wp2_with(first|(have hgq:=HX1;clear hgq;go_at_call 18;((with_reducible refine(HC.out _ HB1.out).mono ?_);rintro e w2 ⟨rfl,hb⟩;have HX2:=h_ (HX1.next (by simp) hb);have HB2:=h_ (HB1.trans (hb.mono HB1.size));clear hb k0 k1 k2;have k0:=HX2.cell (j:=0) rfl;have k1:=HX2.cell (j:=1) rfl;have k2:=HX2.cell (j:=2) rfl))|(go_at_call 90;((with_reducible refine(HL.out _ _ HB0.out HX0.out).mono ?_);rintro e w1 ⟨iv,rfl,hiv,nd,rfl⟩;obtain rfl:=HIV.out iv hiv;clear hiv;have HX1:=h_ (HX0.below (below_drewN b_ nd) (HX0.lt (by simp)));have HB1:=h_ (below_drewN HB0.out nd);have k0:=HX1.cell (j:=0) rfl;have k1:=HX1.cell (j:=1) rfl;have k2:=HX1.cell (j:=2) rfl))|(go_at_call 89;((with_reducible refine(HCM.out _ _).mono ?_);rintro e w3 ⟨a3,c3,fs3,rfl,he3,hr3,hy3,hb3,hn3⟩)));go_ret2
 exact⟨a3,c3,fs3,rfl,he3,hr3,hy3,HB2.trans (hb3.mono HB2.size),hn3.mono HB2.size⟩):P:=h
theorem tq20 {P:Prop}(h:P:=by
 clear hM hMn hm0 hal hKn;go_enter Tryz.func99,Tryz.ntmps99;go_wp2_with(first|(have hgq:=HX1;clear hgq;go_at_call 18;((with_reducible refine(HC.out _ HB1.out).mono ?_);rintro e w2 ⟨rfl,hb⟩;have HX2:=h_ (HX1.next (by simp) hb);have HB2:=h_ (HB1.trans (hb.mono HB1.size));clear hb k0 k1 k2;have k0:=HX2.cell (j:=0) rfl;have k1:=HX2.cell (j:=1) rfl;have k2:=HX2.cell (j:=2) rfl))|(go_at_call 90;((with_reducible refine(HL.out _ _ HB0.out HX0.out).mono ?_);rintro e w1 ⟨iv,rfl,hiv,nd,rfl⟩;obtain rfl:=HIV.out iv hiv;clear hiv;have HX1:=h_ (HX0.below (below_drewN b_ nd) (HX0.lt (by simp)));have HB1:=h_ (below_drewN HB0.out nd);have k0:=HX1.cell (j:=0) rfl;have k1:=HX1.cell (j:=1) rfl;have k2:=HX1.cell (j:=2) rfl))|(go_at_call 89;((with_reducible refine(HCU.out hlt _ _ rfl _ HB2.out).mono ?_);rintro e w3 ⟨a3,c3,fs3,rfl,he3,hr3,hy3,hb3,hn3⟩)));go_ret2
 exact⟨a3,c3,fs3,rfl,he3,hr3,hy3,HB2.trans (hb3.mono HB2.size),hn3.mono HB2.size⟩):P:=h
theorem tq21 {P:Prop}(h:P:=by
 clear hok hlen hr hn hle hc hnc hob;go_enter Tryz.func99,Tryz.ntmps99;go_wp2_with(first|(have hgq:=HX1;clear hgq;go_at_call 18;((with_reducible refine(HC.out _ HB1.out).mono ?_);rintro e w2 ⟨rfl,hb⟩;have HX2:=h_ (HX1.next (by simp) hb);have HB2:=h_ (HB1.trans (hb.mono HB1.size));clear hb k0 k1 k2;have k0:=HX2.cell (j:=0) rfl;have k1:=HX2.cell (j:=1) rfl;have k2:=HX2.cell (j:=2) rfl))|(go_at_call 90;((with_reducible refine(HL.out _ _ HB0.out HX0.out).mono ?_);rintro e w1 ⟨iv,rfl,hiv,nd,rfl⟩;obtain rfl:=HIV.out iv hiv;clear hiv;have HX1:=h_ (HX0.below (below_drewN b_ nd) (HX0.lt (by simp)));have HB1:=h_ (below_drewN HB0.out nd);have k0:=HX1.cell (j:=0) rfl;have k1:=HX1.cell (j:=1) rfl;have k2:=HX1.cell (j:=2) rfl)));go_ret2
 exact⟨none,0,[],rfl,rfl,.inl rfl,(fun y hy=>by cases hy),HB2.out,newE_nil _⟩):P:=h
theorem tq22 {P:Prop}(h:P:=by
 by_cases p4:M= K
 ·skip;subst p4;have q:n= M:=o_;subst q;rcases a with _|⟨bb,oo,r3⟩
  ·clear hc;have e2:i- b-1≤ (n:Int):=o_;have e3:(n:Int)≤(c:Int):=o_;exact tq19
  ·skip;have e2:i- b-1≤ (n:Int):=o_;have e3:(n:Int)≤(c:Int):=o_;exact tq19
 ·skip;have hlt:0< M-K:= o_;obtain⟨bb,oo,rfl⟩:=hal hlt;have e2:i- b-1≤ (n:Int):=o_;have e3:(n:Int)≤(c:Int):=o_;have g5:(n:Int).toNat=M:= o_
  exact tq20):P:=h
theorem from_any(es:List RwE)(b t:Int)(a:Option Addr)(n c:Nat)(i most:Int)(w:World)(hn:es.length= n)(hl:n≤ 1000000)(hc:a= none→c= 0)(hnc:n≤ c)(hcm:c≤ 9223372036854775807)(hle:∀y∈ es,GoodE w y)(hr:Row w a (es.flatMap cellsRw))(hi:InI i):
 Calls Tryz.prog 99 #[.agg #[.int .i64 b,.int .i64 t,.slice a n c],.int .i64 i,.int .i64 most] w (RetFrom w (fromF b t (ents es) i most)):=by
 have hlen:(ents es).length=n:= by rw[←hn];exact List.length_map _
 have HB0:Hid (Below w.heap.size w (w.alloc (.cells #[.int .i64 b,.int .i64 t,.slice a n c] 33))):=mid_alloc' b_;have HX0:Hid (Box (w.alloc (.cells #[.int .i64 b,.int .i64 t,.slice a n c] 33)) w.heap.size [.int .i64 b,.int .i64 t,.slice a n c]):=Box.of_alloc (w:=w) (cs:=[.int .i64 b,.int .i64 t,.slice a n c]) (t:=33) b_;have HC:=h_ (fun w' (hb:Below w.heap.size w w')=>check_any es b t a n c w' hn hl (hr.mono_below hb));have HL:=h_ (fun w' g (hb:Below w.heap.size w w') (hx:Box w' g [.int .i64 b,.int .i64 t,.slice a n c])=>last_any es b t a n c g w' hn hl (hr.mono_below hb) hx);unfold InI at hi;rcases hok:okR b t (ents es)with _|_
 ·rw[chk_not hok]at HC;rw[show fromF b t (ents es) i most=([],90)from if_neg (by rw[hok];exact Bool.false_ne_true)];clear hok hlen hr hn hle hc hnc;go_enter Tryz.func99,Tryz.ntmps99;go_wp2_with(first|(have hgq:=HX1;clear hgq;go_at_call 18;((with_reducible refine(HC.out _ HB1.out).mono ?_);rintro e w2 ⟨rfl,hb⟩;have HX2:=h_ (HX1.next (by simp) hb);have HB2:=h_ (HB1.trans (hb.mono HB1.size));clear hb k0 k1 k2;have k0:=HX2.cell (j:=0) rfl;have k1:=HX2.cell (j:=1) rfl;have k2:=HX2.cell (j:=2) rfl))|(go_at_call 90;((with_reducible refine(HL.out _ _ HB0.out HX0.out).mono ?_);rintro e w1 ⟨iv,rfl,hiv,nd,rfl⟩;clear hiv;have HX1:=h_ (HX0.below (below_drewN b_ nd) (HX0.lt (by simp)));have HB1:=h_ (below_drewN HB0.out nd);have k0:=HX1.cell (j:=0) rfl;have k1:=HX1.cell (j:=1) rfl;have k2:=HX1.cell (j:=2) rfl)));go_ret2;exact⟨none,0,[],rfl,rfl,.inl rfl,(fun y hy=>by cases hy),HB2.out,newE_nil _⟩
 have hob:=ok_bounds hok;have hb1:0≤ b:=hob.1;have hb2:b+ (n:Int)≤1099511627776:= by have:=hob.2.2.1;rw[hlen]at this;exact this
 rw[chk_ok hok]at HC;have HIV:Hid (∀iv: Int,(0≤b→ b≤1099511627776→ iv=b+ ((ents es).length:Int))→iv= b+(n:Int)):=fun iv h=>by rw[h hb1 o_,hlen]
 by_cases h1:i≤ b
 ·rw[show fromF b t (ents es) i most=([],4) by unfold fromF;rw[if_pos hok,if_pos (.inl h1)]];have d1:decide (i≤b)=true:= decide_eq_true h1;exact tq21
 have d1:decide (i≤b)=false:= decide_eq_false h1;by_cases h2:b+ (n:Int)+1< i
 ·rw[show fromF b t (ents es) i most=([],4) by unfold fromF;rw[if_pos hok,if_pos (.inr (by rw[hlen];exact h2))]];have d2:decide (b+(n:Int)+1< i)=true:= decide_eq_true h2;exact tq21
 have d2:decide (b+(n:Int)+1< i)=false:= decide_eq_false h2;rw[show fromF b t (ents es) i most=(((ents es).drop (i-b- 1).toNat).take (cl 0 16 most).toNat,0) by unfold fromF;rw[if_pos hok,if_neg (by rw[hlen];omega)]];rw[←ents_cut];obtain⟨K,g4⟩:∃k,(i-b- 1).toNat=k:= ⟨_,rfl⟩;obtain⟨m,hm⟩:∃m,cl 0 16 most=m:= ⟨_,rfl⟩;rw[g4,hm];have hKn:K≤ n:=o_;have hm0:0≤ m∧m≤ 16:=by rw[←hm];exact cl_bd d_
 obtain⟨M,hM⟩:∃M: Nat,M=min (K+m.toNat) n:=⟨_,rfl⟩;have hMn:K≤ M∧M≤ n:=o_;have hcut:((es.drop K).take m.toNat).length=M- K:=by rw[List.length_take,List.length_drop,hn];omega
 have e1:(0:Int)≤i- b-1:= o_;have hal:0< M-K→ ∃bb oo,a=some ⟨bb,oo,none⟩:=fun h=>by
  cases a with
  |some ad=>
   rcases hr with h3|⟨b1,o1,h3,_⟩
   ·have:=congrArg List.length h3;rw[flatMap_len (size:=5) (fun _=>rfl)]at this;simp at this;omega
   ·exact⟨b1,o1,h3⟩
  |none=> have:=hc rfl;omega
 have HCU:Hid (0<M- K→∀bb oo,a=some ⟨bb,oo,none⟩→∀w',Below w.heap.size w w'→Calls Tryz.prog 89 #[.slice (some ⟨bb,oo+K* 5,none⟩) (M-K) (M-K)] w' (RetCpN w' ((es.drop K).take m.toNat))):=fun h bb oo ha w' hb=>by
  subst ha;exact copied_cut es bb oo K m.toNat w' (M-K) hcut h o_ (fun y hy=>⟨(hle y hy).1.below hb,(hle y hy).2⟩) (hr.mono_below hb)
 have HCN:Hid (M=K→ ∀a' w',Calls Tryz.prog 89 #[.slice a' 0 0] w' (RetCpN w' ((es.drop K).take m.toNat))):=fun h a' w'=>by
  have:(es.drop K).take m.toNat=[]:=List.eq_nil_of_length_eq_zero o_;rw[this];exact copied_nil a' w'
 generalize(es.drop K).take m.toNat=fs at HCU HCN ⊢;clear hok hlen hn hle hr hcut hob;by_cases p1:most< 0
 ·obtain rfl:m= 0:=by rw[←hm];unfold cl;omega
  clear hm;have d5:¬(n:Int)<i- b-1:= o_;have p4:M= K:=by simp only[Int.toNat_zero]at hM;omega
  subst p4;rcases a with _|⟨bb,oo,r3⟩
  ·clear hc;have e2:i- b-1≤ i-b- 1:=o_;have e3:i- b-1≤ (c:Int):=o_;exact tq19
  ·skip;have e2:i- b-1≤ i-b- 1:=o_;have e3:i- b-1≤ (c:Int):=o_;exact tq19
 by_cases p2:(16:Int)<most
 ·obtain rfl:m= 16:=by rw[←hm];unfold cl;omega
  clear hm;have d3:¬most< 0:=p1;by_cases p3:(n:Int)<i- b-1+ 16
  ·exact tq22
  ·skip;have hlt:0< M-K:= o_;obtain⟨bb,oo,rfl⟩:=hal hlt;have e2:i- b-1≤ i-b- 1+16:= o_;have e3:i- b-1+ 16≤(c:Int):=o_;have g5:(i-b- 1+16).toNat=M:= o_;exact tq20
 have hmm:m= most:=by rw[←hm];unfold cl;omega
 clear hm;subst hmm;by_cases p3:(n:Int)<i- b-1+ m
 ·exact tq22
 ·by_cases p4:M= K
  ·skip;subst p4;rcases a with _|⟨bb,oo,r3⟩
   ·clear hc;have e2:i- b-1≤ i-b- 1+m:= o_;have e3:i- b-1+ m≤(c:Int):=o_;have g5:(i-b- 1+m).toNat=M:= o_;exact tq19
   ·skip;have e2:i- b-1≤ i-b- 1+m:= o_;have e3:i- b-1+ m≤(c:Int):=o_;have g5:(i-b- 1+m).toNat=M:= o_;exact tq19
  ·skip;have hlt:0< M-K:= o_;obtain⟨bb,oo,rfl⟩:=hal hlt;have e2:i- b-1≤ i-b- 1+m:= o_;have e3:i- b-1+ m≤(c:Int):=o_;have g5:(i-b- 1+m).toNat=M:= o_;exact tq20
theorem results_tmp5{fn:Func}{t u v x y:Tmp}(h:fn.results= #[.tmp t,.tmp u,.tmp v,.tmp x,.tmp y])(tmps:Array Value)(P:Program)(w:World):
 (results fn tmps).run P w= .ok (.tuple #[tmps.getD t undef,tmps.getD u undef,tmps.getD v undef,tmps.getD x undef,tmps.getD y undef]) w:=by simp[results,h]
def askF(b t:Int)(es:List WEnt)(nx most:Int):Int× Int×Bool× Int×List WEnt:=
 if okR b t es=true then(if nx<1∨ b+es.length+ 1<nx then(0,0,false,2,[])else if nx-1< b then(0,0,true,0,[])else(nx-1,(termF b t es (nx-1)).1,false,0,(fromF b t es nx most).1))else(0,0,false,90,[])
def RetAsk(w:World)(r:Int× Int×Bool× Int×List WEnt)(e:Ending)(w':World):Prop:= ∃(a:Option Addr) (c:Nat) (fs:List RwE),e= .returned (.tuple #[.int .i64 r.1,.int .i64 r.2.1,.slice a fs.length c,.bool r.2.2.1,.int .i64 r.2.2.2.1])∧ents fs=r.2.2.2.2∧ Row w' a (fs.flatMap cellsRw)∧(∀y∈ fs,RowB w' y.2.1 y.1.data)∧Below w.heap.size w w'∧NewE w.heap.size a c fs
theorem ask_not{b t:Int}{es:List WEnt}{nx most:Int}(h:okR b t es=false):askF b t es nx most=(0,0,false,90,[]):=if_neg (by rw[h];exact Bool.false_ne_true)
theorem ask_arg{b t:Int}{es:List WEnt}{nx most:Int}(h:okR b t es=true)(h1:nx< 1∨b+ es.length+1< nx):askF b t es nx most=(0,0,false,2,[]):=by unfold askF;rw[if_pos h,if_pos h1]
theorem ask_snap{b t:Int}{es:List WEnt}{nx most:Int}(h:okR b t es=true)(h1:¬(nx<1∨ b+es.length+ 1<nx))(h2:nx- 1<b):askF b t es nx most=(0,0,true,0,[]):=by unfold askF;rw[if_pos h,if_neg h1,if_pos h2]
theorem ask_in{b t:Int}{es:List WEnt}{nx most:Int}(h:okR b t es=true)(h1:¬(nx<1∨ b+es.length+ 1<nx))(h2:¬nx- 1<b):askF b t es nx most=(nx-1,(termF b t es (nx-1)).1,false,0,(fromF b t es nx most).1):=by unfold askF;rw[if_pos h,if_neg h1,if_neg h2]
theorem from_in{b t:Int}{es:List WEnt}{nx most:Int}(h:okR b t es=true)(h1:¬(nx<1∨ b+es.length+ 1<nx))(h2:¬nx- 1<b):∃l,fromF b t es nx most=(l,0):=by unfold fromF;rw[if_pos h,if_neg o_];exact⟨_,rfl⟩
theorem tq23 {P:Prop}(h:P:=by
 go_enter Tryz.func78,Tryz.ntmps78;go_wp2_with(first|(have hgq:=HB1;clear hgq;go_at_call 18;((with_reducible refine(HC.out _ HB1.out).mono ?_);rintro e w2 ⟨rfl,hb⟩;have HR2:=h_ (HR1.next (by simp) hb);have HP2:=h_ (HP1.next (by simp) hb);have HB2:=h_ (HB1.trans (hb.mono HB1.size));clear hb k0 k1 k2 q0 q1 q2;have k0:=HR2.cell (j:=0) rfl;have k1:=HR2.cell (j:=1) rfl;have k2:=HR2.cell (j:=2) rfl;have q0:=HP2.cell (j:=0) rfl;have q1:=HP2.cell (j:=1) rfl;have q2:=HP2.cell (j:=2) rfl))|(have hgq:=HB0;clear hgq;go_at_call 74;((with_reducible refine(HL.out _ HB0.out).mono ?_);rintro e w1 ⟨rfl,hb⟩;have HR1:=h_ (HR0.next (by simp) hb);have HP1:=h_ (HP0.next (by simp) hb);have HB1:=h_ (HB0.trans (hb.mono HB0.size));clear hb;have k0:=HR1.cell (j:=0) rfl;have k1:=HR1.cell (j:=1) rfl;have k2:=HR1.cell (j:=2) rfl;have q0:=HP1.cell (j:=0) rfl;have q1:=HP1.cell (j:=1) rfl;have q2:=HP1.cell (j:=2) rfl)));(try simp only[Exit.inBlock,Exit.then]);refine bodyPost_ret (results_tmp5 rfl _ _ _) rfl ?_
 exact⟨none,0,[],rfl,rfl,.inl rfl,(fun y hy=>by cases hy),HB2.out,newE_nil _⟩):P:=h
theorem ask_any(es:List RwE)(b t:Int)(a:Option Addr)(n c:Nat)(p0 p1 p2 most:Int)(w:World)(hn:es.length= n)(hl:n≤ 1000000)(hc:a= none→c= 0)(hnc:n≤ c)(hcm:c≤ 9223372036854775807)(hle:∀y∈ es,GoodE w y)(hr:Row w a (es.flatMap cellsRw))(hi:InI p2):
 Calls Tryz.prog 78 #[.agg #[.int .i64 b,.int .i64 t,.slice a n c],.agg #[.int .i64 p0,.int .i64 p1,.int .i64 p2],.int .i64 most] w (RetAsk w (askF b t (ents es) p2 most)):=by
 have hlen:(ents es).length=n:= by rw[←hn];exact List.length_map _
 have HB0:Hid (Below w.heap.size w ((w.alloc (.cells #[.int .i64 b,.int .i64 t,.slice a n c] 33)).alloc (.cells #[.int .i64 p0,.int .i64 p1,.int .i64 p2] 116))):=mid_alloc' (mid_alloc' b_);have HR0:Hid (Box ((w.alloc (.cells #[.int .i64 b,.int .i64 t,.slice a n c] 33)).alloc (.cells #[.int .i64 p0,.int .i64 p1,.int .i64 p2] 116)) w.heap.size [.int .i64 b,.int .i64 t,.slice a n c]):=Box.of_alloc (w:=w) (cs:=[.int .i64 b,.int .i64 t,.slice a n c]) (t:=33) (mid_alloc' b_);have HP0:Hid (Box ((w.alloc (.cells #[.int .i64 b,.int .i64 t,.slice a n c] 33)).alloc (.cells #[.int .i64 p0,.int .i64 p1,.int .i64 p2] 116)) (w.heap.size+1) [.int .i64 p0,.int .i64 p1,.int .i64 p2]):=Box.of_alloc1 (w:=w) (cs:=[.int .i64 p0,.int .i64 p1,.int .i64 p2]) (t:=116) b_;have HC:=h_ (fun w' (hb:Below w.heap.size w w')=>check_any es b t a n c w' hn hl (hr.mono_below hb));have HL:=h_ (fun w' (hb:Below w.heap.size w w')=>lastV_any es b t a n c w' hn hl (hr.mono_below hb));rcases hok:okR b t (ents es)with _|_
 ·rw[chk_not hok]at HC;rw[lastF_not hok]at HL;rw[ask_not hok];clear hok hlen hr hn hle hc hnc hcm;exact tq23
 have hob:=ok_bounds hok;have hb1:0≤ b:=hob.1;have hb2:b+ (n:Int)≤1099511627776:= by have:=hob.2.2.1;rw[hlen]at this;exact this
 rw[chk_ok hok]at HC;rw[lastF_ok hok,hlen]at HL;by_cases h1:p2< 1
 ·rw[ask_arg hok (.inl h1)];have d1:decide (p2<1)=true:= decide_eq_true h1;clear hok hlen hr hn hle hc hnc hob hcm;exact tq23
 have d1:decide (p2<1)=false:= decide_eq_false h1;by_cases h2:b+ (n:Int)+1< p2
 ·rw[ask_arg hok (.inr (by rw[hlen];exact h2))];have d2:decide (b+(n:Int)+1< p2)=true:= decide_eq_true h2;clear hok hlen hr hn hle hc hnc hob hcm;exact tq23
 have d2:decide (b+(n:Int)+1< p2)=false:= decide_eq_false h2;have h12:¬(p2<1∨ b+((ents es).length:Int)+1< p2):=by rw[hlen];omega
 have e1:IntKind.i64.wrap (p2-1)=p2- 1:=IntWalk.i64_in _ o_;by_cases h3:p2- 1<b
 ·rw[ask_snap hok h12 h3];have d3:decide (p2-1< b)=true:= decide_eq_true h3;clear hok hlen hr hn hle hc hnc hob hcm h12;exact tq23
 have d3:decide (p2-1< b)=false:= decide_eq_false h3;rw[ask_in hok h12 h3];have hi1:InI (p2-1):=by unfold InI at hi ⊢;omega
 have HT:=h_ (fun w' (hb:Below w.heap.size w w')=>term_any es b t a n c w' hn hl (hr.mono_below hb) (p2-1) hi1);have HF:=h_ (fun w' (hb:Below w.heap.size w w')=>from_any es b t a n c p2 most w' hn hl hc hnc hcm (fun y hy=>⟨(hle y hy).1.below hb,(hle y hy).2⟩) (hr.mono_below hb) hi);obtain⟨lf,hf⟩:=from_in (most:=most) hok h12 h3;rw[hf]at HF;rw[hf];generalize termF b t (ents es) (p2-1)=tf at HT;obtain⟨tv,tb⟩:=tf;clear hok hlen hr hn hle hc hnc hob hcm h12 hi1 hf;go_enter Tryz.func78,Tryz.ntmps78;go_wp2_with(first|(have hgq:=HB3;clear hgq;go_at_call 99;((with_reducible refine(HF.out _ HB3.out).mono ?_);rintro e w4 ⟨a3,c3,fs3,rfl,he3,hr3,hy3,hb3,hn3⟩;clear k0 k1 k2 q0 q1 q2;have HB4:=h_ (HB3.trans (hb3.mono HB3.size));have HP4:=h_ (HP3.next (by simp) hb3);have q0:=HP4.cell (j:=0) rfl;have q1:=HP4.cell (j:=1) rfl;have q2:=HP4.cell (j:=2) rfl))|(have hgq:=HB2;clear hgq;go_at_call 68;((with_reducible refine(HT.out _ HB2.out).mono ?_);rintro e w3 ⟨rfl,hb⟩;have HR3:=h_ (HR2.next (by simp) hb);have HP3:=h_ (HP2.next (by simp) hb);have HB3:=h_ (HB2.trans (hb.mono HB2.size));clear hb k0 k1 k2 q0 q1 q2;have k0:=HR3.cell (j:=0) rfl;have k1:=HR3.cell (j:=1) rfl;have k2:=HR3.cell (j:=2) rfl;have q0:=HP3.cell (j:=0) rfl;have q1:=HP3.cell (j:=1) rfl;have q2:=HP3.cell (j:=2) rfl))|(have hgq:=HB1;clear hgq;go_at_call 18;((with_reducible refine(HC.out _ HB1.out).mono ?_);rintro e w2 ⟨rfl,hb⟩;have HR2:=h_ (HR1.next (by simp) hb);have HP2:=h_ (HP1.next (by simp) hb);have HB2:=h_ (HB1.trans (hb.mono HB1.size));clear hb k0 k1 k2 q0 q1 q2;have k0:=HR2.cell (j:=0) rfl;have k1:=HR2.cell (j:=1) rfl;have k2:=HR2.cell (j:=2) rfl;have q0:=HP2.cell (j:=0) rfl;have q1:=HP2.cell (j:=1) rfl;have q2:=HP2.cell (j:=2) rfl))|(have hgq:=HB0;clear hgq;go_at_call 74;((with_reducible refine(HL.out _ HB0.out).mono ?_);rintro e w1 ⟨rfl,hb⟩;have HR1:=h_ (HR0.next (by simp) hb);have HP1:=h_ (HP0.next (by simp) hb);have HB1:=h_ (HB0.trans (hb.mono HB0.size));clear hb;have k0:=HR1.cell (j:=0) rfl;have k1:=HR1.cell (j:=1) rfl;have k2:=HR1.cell (j:=2) rfl;have q0:=HP1.cell (j:=0) rfl;have q1:=HP1.cell (j:=1) rfl;have q2:=HP1.cell (j:=2) rfl)));(try simp only[Exit.inBlock,Exit.then]);refine bodyPost_ret (results_tmp5 rfl _ _ _) rfl ?_;exact⟨a3,c3,fs3,rfl,he3,hr3,hy3,HB3.trans (hb3.mono HB3.size),hn3.mono HB3.size⟩
end Go.Proofs.YtoeofkcpclfnhaaGreat
namespace Go.Proofs.YtoeofkcpclfnhaaGreat.Raf
set_option maxHeartbeats 16000000
structure RN where
 self:Int
 base:UInt8
 elect:Int
 pulse:Int
 draws:List Int
 hT:Int
 hV:Int
 hB:Int
 es:List WEnt
 com:Int
 role:Int
 known:Int
 due:Int
 beat:Int
 drawn:Int
 yes:UInt8
 p:List Prg
def latS(b:UInt8)(l:List WEnt):UInt8× Nat:=(l.foldl (fun(r:(UInt8×Nat)×Nat) x=>((if x.kind=1 then(x.set,r.2+1)else r.1),r.2+1)) ((b,0),0)).1
def emptyM:WMsg:= ⟨0,0,0,0,0,0,0,false,[],0,0,0,[],[]⟩
def RN.set(n:RN):Nat:= (latS n.base n.es).1.toNat
def timeoutF(e d:Int):Int:= let b:=min (max e 1) 1099511627776;b+Int.tmod (Int.tmod d b+b) b
def again(n:RN)(now:Int):RN:=
 if n.draws.length=0 then{n with due:=now+ timeoutF n.elect 0}
 else{n with due:=now+ timeoutF n.elect (n.draws.getD (n.drawn.toNat%n.draws.length) 0),drawn:=n.drawn+ 1}
def progF(n:RN)(k:Int):Prg:= if hasP n.p k then prgOf n.p k else⟨k,0,n.es.length+1⟩
def sendF(n:RN)(k:Int):WMsg:=
 let a:=askF 0 0 n.es (progF n k).next 16
 {emptyM with kind:=3,src:=n.self,dst:=k,term:=n.hT,index:=a.1,last:=a.2.1,commit:=n.com,entries:=a.2.2.2.2}
def others(n:RN):List Int:=((List.range 7).filter (fun j=>inSet n.set (j+1)&&((((j+1: Nat)):Int) !=n.self))).map (fun j=>((j+1: Nat):Int))
def allF(n:RN):List WMsg:=(others n).map (sendF n)
def countF(n:RN):RN:=
 if n.role=2 then(let r:=commitF 0 0 n.es n.set n.self n.hT n.com n.p;if r.2=0 then{n with com:=r.1}else n)else n
def putEF(n:RN)(x:WEnt):RN:= if okR 0 0 (n.es++[x])=true then{n with es:=n.es++ [x]}else n
def leadF(n:RN)(now:Int):RN× List WMsg:=
 let n1:={n with role:=2,known:=n.self,p:=beginF 0 0 n.es n.set n.self}
 let n2:=putEF n1 ⟨n.hT,0,0,0,[]⟩
 (countF {n2 with beat:=now+ n.pulse},allF n2)
def majB(set yes:Nat):Bool:= decide (sizeS set 7<2* sizeS (set &&& yes) 7)
def bitOf(k:Int):UInt8:= UInt8.ofNat (2^(k-1).toNat)
def electF(n0:RN)(now:Int):RN× List WMsg:=
 let n:=again n0 now
 if inSet n.set n.self.toNat then
  let n1:={n with hT:=n.hT+ 1,hV:=n.self,role:=1,known:=0,yes:=bitOf n.self}
  let asks:=(others n).map fun k=>{emptyM with kind:=1,src:=n.self,dst:=k,term:=n.hT+ 1,index:=n.es.length,last:=lastT 0 n.es}
  if majB n.set n1.yes.toNat then((leadF n1 now).1,asks++(leadF n1 now).2)else(n1,asks)
 else(n,[])
def endF(n:RN):RN:= if n.role=2∧ ((latS n.base n.es).2:Int)≤n.com∧ inSet n.set n.self.toNat=false then{n with role:=0,known:=0}else n
def tickF(n:RN)(now:Int):RN× List WMsg:=
 if n.role=2∧ n.beat≤now then(endF {n with beat:=now+ n.pulse},allF n)
 else if n.role≠2∧ n.due≤now then(endF (electF n now).1,(electF n now).2)else(endF n,[])
def riseF(n:RN)(t:Int):RN:= if n.hT<t then{n with hT:=t,hV:=0,role:=0,known:=0}else n
def tellF(n:RN)(k:Int)(ok:Bool)(i:Int):WMsg:= {emptyM with kind:=4,src:=n.self,dst:=k,term:=n.hT,ok:=ok,index:=i}
def newer(es:List WEnt)(i t:Int):Bool:= decide (lastT 0 es<t∨ t=lastT 0 es∧(es.length:Int)≤i)
def mergeF(es:List WEnt):Nat→ List WEnt→List WEnt
 |_,[]=>es
 |k,x::l=> match es[k]? with
  |some y=>if y.term=x.term then mergeF es (k+1) l else es.take k++x:: l
  |none=> es.take k++x:: l
def putR(es:List WEnt)(i t:Int)(l:List WEnt):List WEnt×Int× Bool×Int:=
 if 16<l.length∨ okR i t l=false then([],0,false,2)
 else if(es.length:Int)<i then(es,es.length,false,0)
 else if termR 0 0 es i≠t then(es,max (i-1) 0,false,0)
 else if okR 0 0 (mergeF es i.toNat l)=true then(mergeF es i.toNat l,i+l.length,true,0)else([],0,false,90)
def hearF(n:RN)(m:WMsg)(now:Int):RN× List WMsg:=
 if m.kind<1∨ 4<m.kind∨ m.src<1∨ 7<m.src∨ m.src=n.self∨ m.dst≠n.self∨ m.term<1 then(endF n,[])else
 let n:=riseF n m.term
 if m.kind=1 then
  let yes:=decide (m.term=n.hT)&&(decide (n.hV=0)||decide (n.hV=m.src))&&newer n.es m.index m.last
  let a:WMsg:= {emptyM with kind:=2,src:=n.self,dst:=m.src,term:=n.hT,ok:=yes}
  (endF (if yes then again {n with hV:=m.src} now else n),[a])
 else if m.kind=2 then
  if n.role=1∧ m.term=n.hT∧ m.ok=true then
   let n1:={n with yes:=n.yes ||| bitOf m.src}
   if majB n.set n1.yes.toNat then(endF (leadF n1 now).1,(leadF n1 now).2)else(endF n1,[])
  else(endF n,[])
 else if m.kind=3 then
  if m.term<n.hT then(endF n,[tellF n m.src false n.es.length])else
  let n:=again {n with role:=0,known:=m.src} now
  let r:=putR n.es m.index m.last m.entries
  if r.2.2.2≠0 then(endF n,[tellF n m.src false n.es.length])
  else if r.2.2.1=false then(endF n,[tellF n m.src false r.2.1])
  else(endF {n with es:=r.1,com:=max n.com (min m.commit r.2.1)},[tellF n m.src true r.2.1])
 else
  if n.role=2∧ m.term=n.hT then
   let q:=toldF (progF n m.src) m.ok (min m.index n.es.length)
   let n1:=countF {n with p:=putF n.p q}
   (endF n1,if m.ok=false∨ q.next≤n.es.length then[sendF n1 m.src]else[])
  else(endF n,[])
def freeF(n:RN):Bool:= decide (((latS n.base n.es).2:Int)≤n.com)&&(List.range n.es.length).any (fun i=>decide (((i:Int)+1)≤n.com)&&decide ((n.es.getD i ⟨0,0,0,0,[]⟩).term=n.hT))
def pop8(s:Nat):Nat:= s%2+ s/2% 2+s/ 4%2+ s/8% 2+s/ 16%2+ s/32% 2+s/ 64%2+ s/128% 2
def nearB(a b:Nat):Bool:= decide (a≠0)&&decide (a<128)&&decide (pop8 (a ^^^ b)=1)
def propF(n:RN)(x:WEnt):Option (RN×List WMsg):=
 if n.role≠2 then none else
 let y:={x with term:=n.hT}
 if okR 0 0 (n.es++[y])=false then none
 else if x.kind=1∧ (freeF n=false∨ nearB x.set.toNat n.set=false)then none
 else if x.kind≠1∧ x.kind≠2 then none
 else let n1:={n with es:=n.es++ [y]};some (endF (countF n1),allF n1)
def newF(self:Int)(base:UInt8)(elect pulse:Int)(draws:List Int)(hT hV hB:Int)(es:List WEnt)(now:Int):RN:= again ⟨self,base,elect,pulse,draws,hT,hV,hB,es,0,0,0,0,0,0,0,[]⟩ now
end Go.Proofs.YtoeofkcpclfnhaaGreat.Raf
