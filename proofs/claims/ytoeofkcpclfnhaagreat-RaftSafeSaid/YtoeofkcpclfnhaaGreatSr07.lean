import Derived.IntWalk
import Derived.Deep.CutRange
import Derived.Deep.CutBlock
import Derived.RegionTactic
import Derived.ChangeAlike
import Derived.Test.YtoeofkcpclfnhaaGreatSrRwCheck
import Derived.Test.YtoeofkcpclfnhaaGreatSr06
set_option linter.unusedVariables false
set_option linter.unusedSimpArgs false
namespace Go.Proofs.YtoeofkcpclfnhaaGreat
open Go.ChangeShapes Go.WideShapes Go.ChangeAt Go.RowKit
set_option maxRecDepth 100000
set_option maxHeartbeats 16000000
def RetLast(w:World)(b t:Int)(es:List WEnt)(e:Ending)(w':World):Prop:= ∃i: Int,e= .returned (.tuple #[.int .i64 i,.int .i64 (lastT t es)])∧(0≤b→ b≤1099511627776→ i=b+ es.length)∧∃nd,w'=w.drewN nd
def RetII(w:World)(r:Int× Int)(e:Ending)(w':World):Prop:= e= .returned (.tuple #[.int .i64 r.1,.int .i64 r.2])∧Below w.heap.size w w'
def RetIB(w:World)(r:Int× Bool)(e:Ending)(w':World):Prop:= e= .returned (.tuple #[.int .i64 r.1,.bool r.2])∧Below w.heap.size w w'
def lastF(b t:Int)(es:List WEnt):Int× Int:=if okR b t es=true then(b+es.length,lastT t es)else(0,0)
def termF(b t:Int)(es:List WEnt)(i:Int):Int× Bool:=if okR b t es=true∧ hasR b es i=true then(termR b t es i,true)else(0,false)
theorem lastF_ok{b t:Int}{es:List WEnt}(h:okR b t es=true):lastF b t es=(b+es.length,lastT t es):=if_pos h
theorem lastF_not{b t:Int}{es:List WEnt}(h:okR b t es=false):lastF b t es=(0,0):=if_neg (by rw[h];exact Bool.false_ne_true)
theorem ok_bounds{b t:Int}{es:List WEnt}(h:okR b t es=true):0≤ b∧es.length≤ 4096∧b+ es.length≤1099511627776∧ 0≤t:= by
 obtain⟨h1,-⟩:=okR_iff.1 h;obtain⟨h2,h3,h4,h5,-⟩:=headR_iff.1 h1;exact⟨h2,h3,by omega,h5⟩
theorem termF_not{b t:Int}{es:List WEnt}{i:Int}(h:okR b t es=false):termF b t es i=(0,false):=if_neg (fun h1=>by rw[h]at h1;exact Bool.false_ne_true h1.1)
theorem termF_low{b t:Int}{es:List WEnt}{i:Int}(h:i< b):termF b t es i=(0,false):=if_neg (fun h1=>by have:=of_decide_eq_true h1.2;omega)
theorem termF_high{b t:Int}{es:List WEnt}{i:Int}(h:b+ es.length<i):termF b t es i=(0,false):=if_neg (fun h1=>by have:=of_decide_eq_true h1.2;omega)
theorem termF_base{b t:Int}{es:List WEnt}{i:Int}(h:okR b t es=true)(hi:i= b):termF b t es i=(t,true):=by
 subst hi;unfold termF termR hasR;rw[if_pos ⟨h,decide_eq_true o_⟩,if_pos o_];rw[Int.sub_self];rfl
theorem termF_in{b t:Int}{es:List WEnt}{i:Int}{k:Nat}(h:okR b t es=true)(hi:i= b+k+ 1)(hk:k< es.length):termF b t es i=(es[k].term,true):=by
 subst hi;unfold termF termR hasR;rw[if_pos ⟨h,decide_eq_true o_⟩,if_pos o_];have e:(b+(k:Int)+1- b).toNat=k+ 1:=o_;rw[e,terms_succ hk]
theorem last_any(es:List RwE)(b t:Int)(a:Option Addr)(n c g:Nat)(w:World)(hn:es.length= n)(hl:n≤ 1000000)(hr:Row w a (es.flatMap cellsRw))(hx:Box w g [.int .i64 b,.int .i64 t,.slice a n c]):
 Calls Tryz.prog 90 #[.pointer (some ⟨g,0,none⟩)] w (RetLast w b t (ents es)):=by
 have hlen:(ents es).length=n:= by rw[←hn];exact List.length_map _
 have k0:=hx.cell (j:=0) rfl;have k1:=hx.cell (j:=1) rfl;have k2:=hx.cell (j:=2) rfl;clear hx;by_cases h0:n= 0
 ·have HL:=h_ (lastT_nil (t:=t) (es:=ents es) o_);have HLN:=h_ hlen;clear hlen hr hn;subst h0;go_enter Tryz.func90,Tryz.ntmps90;go_wp2_with fail;go_quiet (fail);go_wp2_with fail;go_ret2;exact⟨b,by rw[HL.out];rfl,fun _ _=>by rw[HLN.out];omega,_,rfl⟩
 ·have hke:n- 1<es.length:= o_;have hkl:(ents es).length-1< (ents es).length:=o_;obtain⟨bb,oo,ha,hE⟩:=entAt hr hke;have j0:=hE.c0;have HL:Hid (lastT t (ents es)=es[n-1].1.term):=by
   show _=_
   rw[lastT_get o_];have e1:(ents es)[(ents es).length-1]'hkl=es[n-1].1:=by
    have e2:(ents es).length-1= n-1:= o_;simp only[e2];exact List.getElem_map _
   rw[e1]
  generalize es[n-1].1.term=x at j0 HL;subst ha;have HLN:=h_ hlen;clear hlen hr hn hE hkl hke;have hn1:0< n:=o_;have g1:IntKind.i64.wrap ((n:Int)-1)=(n:Int)-1:= IntWalk.i64_in _ o_;have g2:(0:Int)≤(n:Int)-1:= o_;have g3:(n:Int)-1< (n:Int):=o_;have g4:((n:Int)-1).toNat=n- 1:=o_;have g5:decide ((0:Int)<(n:Int))=true:= decide_eq_true o_;have HW:Hid (0≤b→ b≤1099511627776→ IntKind.i64.wrap (b+(n:Int))=b+ n):=fun h1 h2=>IntWalk.i64_in _ o_
  obtain⟨iw,hiw⟩:∃i,IntKind.i64.wrap (b+(n:Int))=i:= ⟨_,rfl⟩;rw[hiw]at HW;clear h0 hl;go_enter Tryz.func90,Tryz.ntmps90;go_wp2_with fail;go_quiet (fail);go_wp2_with fail;go_ret2;exact⟨iw,by rw[HL.out];rfl,fun h1 h2=>by rw[HLN.out];exact HW.out h1 h2,_,rfl⟩
theorem lastV_any(es:List RwE)(b t:Int)(a:Option Addr)(n c:Nat)(w:World)(hn:es.length= n)(hl:n≤ 1000000)(hr:Row w a (es.flatMap cellsRw)):
 Calls Tryz.prog 74 #[.agg #[.int .i64 b,.int .i64 t,.slice a n c]] w (RetII w (lastF b t (ents es))):=by
 have hlen:(ents es).length=n:= by rw[←hn];exact List.length_map _
 have HB0:Hid (Below w.heap.size w (w.alloc (.cells #[.int .i64 b,.int .i64 t,.slice a n c] 33))):=mid_alloc' b_;have HX0:Hid (Box (w.alloc (.cells #[.int .i64 b,.int .i64 t,.slice a n c] 33)) w.heap.size [.int .i64 b,.int .i64 t,.slice a n c]):=Box.of_alloc (w:=w) (cs:=[.int .i64 b,.int .i64 t,.slice a n c]) (t:=33) b_;have HN:=h_ hn;have HLN:=h_ hlen;have HR:=h_ hr;have HC:=h_ (fun w' (hb:Below w.heap.size w w')=>check_any es b t a n c w' hn hl (hr.mono_below hb));rcases hok:okR b t (ents es)with _|_
 ·rw[chk_not hok]at HC;rw[lastF_not hok];clear hok hlen hr hn;go_enter Tryz.func74,Tryz.ntmps74;go_wp2_with(go_at_call 18;((with_reducible refine(HC.out _ HB0.out).mono ?_);rintro e w1 ⟨rfl,hb⟩;have HX1:=h_ (HX0.next (by simp) hb);have HB1:=h_ (HB0.trans (hb.mono HB0.size));clear hb));go_ret2;exact⟨rfl,HB1.out⟩
 ·have HOK:=h_ (ok_bounds hok);rw[chk_ok hok]at HC;rw[lastF_ok hok];clear hok hlen;have HL:=h_ (fun w' g (hb:Below w.heap.size w w') (hx:Box w' g [.int .i64 b,.int .i64 t,.slice a n c])=>last_any es b t a n c g w' hn hl (hr.mono_below hb) hx);clear hr hn;go_enter Tryz.func74,Tryz.ntmps74;go_wp2_with(first|(have hgq:=HX1;clear hgq;go_at_call 90;((with_reducible refine(HL.out _ _ HB1.out HX1.out).mono ?_);rintro e w2 ⟨i,rfl,hi,nd,rfl⟩;have HI:=h_ hi;clear hi))|(go_at_call 18;((with_reducible refine(HC.out _ HB0.out).mono ?_);rintro e w1 ⟨rfl,hb⟩;have HX1:=h_ (HX0.next (by simp) hb);have HB1:=h_ (HB0.trans (hb.mono HB0.size));clear hb)));go_ret2;exact⟨by rw[HI.out HOK.1 (by have:=HOK.out;omega)];rfl,below_drewN HB1.out nd⟩
theorem refLast_any(es:List RwE)(b t:Int)(a:Option Addr)(n c:Nat)(w:World)(hn:es.length= n)(hl:n≤ 1000000)(hr:Row w a (es.flatMap cellsRw)):
 Calls Tryz.prog 70 #[.agg #[.int .i64 b,.int .i64 t,.slice a n c]] w (RetII w (lastF b t (ents es))):=by
 have hlen:(ents es).length=n:= by rw[←hn];exact List.length_map _
 have HB0:Hid (Below w.heap.size w (w.alloc (.cells #[.int .i64 b,.int .i64 t,.slice a n c] 33))):=mid_alloc' b_;have HX0:Hid (Box (w.alloc (.cells #[.int .i64 b,.int .i64 t,.slice a n c] 33)) w.heap.size [.int .i64 b,.int .i64 t,.slice a n c]):=Box.of_alloc (w:=w) (cs:=[.int .i64 b,.int .i64 t,.slice a n c]) (t:=33) b_;have HN:=h_ hn;have HLN:=h_ hlen;have HR:=h_ hr;have HC:=h_ (fun w' (hb:Below w.heap.size w w')=>refcheck_any es b t a n c w' hn hl (hr.mono_below hb));rcases hok:okR b t (ents es)with _|_
 ·rw[chk_not hok]at HC;rw[lastF_not hok];clear hok hlen hr hn;go_enter Tryz.func70,Tryz.ntmps70;go_wp2_with(go_at_call 71;((with_reducible refine(HC.out _ HB0.out).mono ?_);rintro e w1 ⟨rfl,hb⟩;have HX1:=h_ (HX0.next (by simp) hb);have HB1:=h_ (HB0.trans (hb.mono HB0.size));have k0:=HX1.cell (j:=0) rfl;have k1:=HX1.cell (j:=1) rfl;have k2:=HX1.cell (j:=2) rfl;clear hb));go_ret2;exact⟨rfl,HB1.out⟩
 ·have HOK:=h_ (ok_bounds hok);rw[chk_ok hok]at HC;rw[lastF_ok hok];clear hok hlen;by_cases h0:n= 0
  ·have HL:=h_ (lastT_nil (t:=t) (es:=ents es) (by rw[HLN.out];exact h0));have HOK2:=HOK;clear HOK hr hn;subst h0;go_enter Tryz.func70,Tryz.ntmps70;go_upto_region 5 with(go_at_call 71;((with_reducible refine(HC.out _ HB0.out).mono ?_);rintro e w1 ⟨rfl,hb⟩;have HX1:=h_ (HX0.next (by simp) hb);have HB1:=h_ (HB0.trans (hb.mono HB0.size));have k0:=HX1.cell (j:=0) rfl;have k1:=HX1.cell (j:=1) rfl;have k2:=HX1.cell (j:=2) rfl;clear hb));go_quiet (fail);go_wp2_with fail;go_ret2;exact⟨by rw[HL.out,HLN.out];simp,below_drewN HB1.out _⟩
  ·have hke:n- 1<es.length:= by rw[HN.out];omega
   have hkl:(ents es).length-1< (ents es).length:=by rw[HLN.out];omega
   have HE:=h_ (fun w' (hb:Below w.heap.size w w')=>entAt (hr.mono_below hb) hke);have HL:Hid (lastT t (ents es)=es[n-1].1.term):=by
    show _=_
    rw[lastT_get (by rw[HLN.out];omega)];have e1:(ents es)[(ents es).length-1]'hkl=es[n-1].1:=by
     have e2:(ents es).length-1= n-1:= by rw[HLN.out]
     simp only[e2];exact List.getElem_map _
    rw[e1]
   generalize es[n-1]=x at HE HL;obtain⟨x,p⟩:=x;have hn1:0< n:=o_;have g1:IntKind.i64.wrap ((n:Int)-1)=(n:Int)-1:= IntWalk.i64_in _ o_;have g2:(0:Int)≤(n:Int)-1:= o_;have g3:(n:Int)-1< (n:Int):=o_;have g4:((n:Int)-1).toNat=n- 1:=o_;have g5:((n:Int)==0)=false:= by simp;omega
   have g6:IntKind.i64.wrap (b+(n:Int))=b+ n:=IntWalk.i64_in _ (by have:=HOK.out;rw[HLN.out]at this;omega);have HG:=h_ (And.intro g1 (And.intro g2 (And.intro g3 (And.intro g4 (And.intro g5 g6)))));have g5':=g5;clear g1 g2 g3 g4 g5 g6 h0 hl hke hkl hr hn HOK;go_enter Tryz.func70,Tryz.ntmps70;go_upto_region 6 with(go_at_call 71;((with_reducible refine(HC.out _ HB0.out).mono ?_);rintro e w1 ⟨rfl,hb⟩;have HX1:=h_ (HX0.next (by simp) hb);have HB1:=h_ (HB0.trans (hb.mono HB0.size));have k0:=HX1.cell (j:=0) rfl;have k1:=HX1.cell (j:=1) rfl;have k2:=HX1.cell (j:=2) rfl;clear hb));have g6:=HG.2.2.2.2.2;obtain⟨g1,g2,g3,g4,g5,-⟩:=HG.out;obtain⟨bb,oo,ha,hE⟩:=HE.out _ HB1.out;have j0:=hE.c0
   try simp only at j0 HL
   subst ha;clear hE HE HX0 HX1 HG;go_quiet (fail);go_wp2_with fail;go_ret2;exact⟨by rw[HL.out,HLN.out];rfl,below_drewN HB1.out _⟩
theorem tq15 {P:Prop}(h:P:=by
 go_enter Tryz.func68,Tryz.ntmps68;go_wp2_with(first|(have hgq:=HX1;clear hgq;go_at_call 18;((with_reducible refine(HC.out _ HB1.out).mono ?_);rintro e w2 ⟨rfl,hb⟩;have HX2:=h_ (HX1.next (by simp) hb);have HB2:=h_ (HB1.trans (hb.mono HB1.size));clear hb;have k0:=HX2.cell (j:=0) rfl;have k1:=HX2.cell (j:=1) rfl;have k2:=HX2.cell (j:=2) rfl))|(go_at_call 90;((with_reducible refine(HL.out _ _ HB0.out HX0.out).mono ?_);rintro e w1 ⟨iv,rfl,hiv,nd,rfl⟩;obtain rfl:=HIV.out iv hiv;clear hiv;have HX1:=h_ (HX0.below (below_drewN b_ nd) (HX0.lt (by simp)));have HB1:=h_ (below_drewN HB0.out nd);have k0:=HX1.cell (j:=0) rfl;have k1:=HX1.cell (j:=1) rfl;have k2:=HX1.cell (j:=2) rfl)));go_ret2
 exact⟨rfl,HB2.out⟩):P:=h
theorem term_any(es:List RwE)(b t:Int)(a:Option Addr)(n c:Nat)(w:World)(hn:es.length= n)(hl:n≤ 1000000)(hr:Row w a (es.flatMap cellsRw))(i:Int)(hi:InI i):
 Calls Tryz.prog 68 #[.agg #[.int .i64 b,.int .i64 t,.slice a n c],.int .i64 i] w (RetIB w (termF b t (ents es) i)):=by
 have hlen:(ents es).length=n:= by rw[←hn];exact List.length_map _
 have HB0:Hid (Below w.heap.size w (w.alloc (.cells #[.int .i64 b,.int .i64 t,.slice a n c] 33))):=mid_alloc' b_;have HX0:Hid (Box (w.alloc (.cells #[.int .i64 b,.int .i64 t,.slice a n c] 33)) w.heap.size [.int .i64 b,.int .i64 t,.slice a n c]):=Box.of_alloc (w:=w) (cs:=[.int .i64 b,.int .i64 t,.slice a n c]) (t:=33) b_;have HN:=h_ hn;have HLN:=h_ hlen;have HR:=h_ hr;unfold InI at hi;have HC:=h_ (fun w' (hb:Below w.heap.size w w')=>check_any es b t a n c w' hn hl (hr.mono_below hb));have HL:=h_ (fun w' g (hb:Below w.heap.size w w') (hx:Box w' g [.int .i64 b,.int .i64 t,.slice a n c])=>last_any es b t a n c g w' hn hl (hr.mono_below hb) hx);have HRB:=h_ (fun w' (hb:Below w.heap.size w w')=>hr.mono_below hb);rcases hok:okR b t (ents es)with _|_
 ·rw[chk_not hok]at HC;rw[termF_not hok];skip;clear hok hlen hr hn;go_enter Tryz.func68,Tryz.ntmps68;go_wp2_with(first|(have hgq:=HX1;clear hgq;go_at_call 18;((with_reducible refine(HC.out _ HB1.out).mono ?_);rintro e w2 ⟨rfl,hb⟩;have HX2:=h_ (HX1.next (by simp) hb);have HB2:=h_ (HB1.trans (hb.mono HB1.size));clear hb;have k0:=HX2.cell (j:=0) rfl;have k1:=HX2.cell (j:=1) rfl;have k2:=HX2.cell (j:=2) rfl))|(go_at_call 90;((with_reducible refine(HL.out _ _ HB0.out HX0.out).mono ?_);rintro e w1 ⟨iv,rfl,hiv,nd,rfl⟩;clear hiv;have HX1:=h_ (HX0.below (below_drewN b_ nd) (HX0.lt (by simp)));have HB1:=h_ (below_drewN HB0.out nd);have k0:=HX1.cell (j:=0) rfl;have k1:=HX1.cell (j:=1) rfl;have k2:=HX1.cell (j:=2) rfl)));go_ret2;exact⟨rfl,HB2.out⟩
 ·have HOK:=h_ (ok_bounds hok);have hbd:0≤ b∧b+ (n:Int)≤1099511627776:= ⟨HOK.1,by have:=HOK.2.2.1;rw[hlen]at this;exact this⟩;obtain⟨hb1,hb2⟩:=hbd;rw[chk_ok hok]at HC;have HIV:Hid (∀iv: Int,(0≤b→ b≤1099511627776→ iv=b+ ((ents es).length:Int))→iv= b+(n:Int)):=fun iv h=>by rw[h hb1 o_,hlen]
  have HT1:=h_ (fun h=>termF_low (t:=t) (es:=ents es) (i:=i) (b:=b) h);have HT2:=h_ (fun(h:b+ (n:Int)<i)=>termF_high (t:=t) (es:=ents es) (i:=i) (b:=b) (by rw[hlen];exact h));have HT3:=h_ (fun h=>termF_base (i:=i) hok h);have HT4:=h_ (fun k (h1:i= b+(k:Nat)+1) (h2:k< (ents es).length)=>termF_in hok h1 h2);clear hok hlen hr hn;generalize termF b t (ents es) i=r at HT1 HT2 HT3 HT4 ⊢;rcases d1:decide (i<b)with _|_;rotate_left
  ·obtain rfl:=HT1.out (of_decide_eq_true d1);exact tq15
  rcases d2:decide (b+(n:Int)<i)with _|_;rotate_left
  ·obtain rfl:=HT2.out (of_decide_eq_true d2);exact tq15
  have h1:b≤ i:=by have:=of_decide_eq_false d1;omega
  have h2:i≤ b+(n:Int):=by have:=of_decide_eq_false d2;omega
  rcases d3:(i==b)with _|_;rotate_left
  ·obtain rfl:=HT3.out (by simpa using d3);exact tq15
  have h3:b< i:=by
   have:¬i= b:=by simpa using d3
   omega
  have g2:(0:Int)≤i- b-1:= o_;have g3:i- b-1< (n:Int):=o_;obtain⟨k,g4⟩:∃k,(i-b- 1).toNat=k:= ⟨_,rfl⟩;have hke:k< es.length:=by rw[HN.out];omega
  have hT4:=HT4.out k o_ (by rw[HLN.out];omega);have hxe:(ents es)[k]'(by rw[HLN.out];omega)=es[k].1:=List.getElem_map _;rw[hxe]at hT4;obtain⟨bb,oo,ha,hE⟩:=entAt HR.out hke;subst ha;have HJ:=h_ (fun w' (hb:Below w.heap.size w w')=>cell_next hb hE.c0);generalize es[k]=x at HJ hT4 hE;obtain⟨x,p⟩:=x;obtain rfl:=hT4;simp only at HJ;clear HT1 HT2 HT3 HT4 hke hxe hE;go_enter Tryz.func68,Tryz.ntmps68;go_wp2_with(first|(have hgq:=HX1;clear hgq;go_at_call 18;((with_reducible refine(HC.out _ HB1.out).mono ?_);rintro e w2 ⟨rfl,hb⟩;have HX2:=h_ (HX1.next (by simp) hb);have HB2:=h_ (HB1.trans (hb.mono HB1.size));clear hb;have k0:=HX2.cell (j:=0) rfl;have k1:=HX2.cell (j:=1) rfl;have k2:=HX2.cell (j:=2) rfl;have j0:=HJ.out _ HB2.out))|(go_at_call 90;((with_reducible refine(HL.out _ _ HB0.out HX0.out).mono ?_);rintro e w1 ⟨iv,rfl,hiv,nd,rfl⟩;obtain rfl:=HIV.out iv hiv;clear hiv;have HX1:=h_ (HX0.below (below_drewN b_ nd) (HX0.lt (by simp)));have HB1:=h_ (below_drewN HB0.out nd);have k0:=HX1.cell (j:=0) rfl;have k1:=HX1.cell (j:=1) rfl;have k2:=HX1.cell (j:=2) rfl)));go_ret2;exact⟨rfl,HB2.out⟩
theorem bit_and:∀(n:Fin 256) (d:Fin 7),(bits .and .u8 ((n.val:Int)/((2^d.val: Nat):Int)) 1==1)=decide (n.val/2^ d.val%2= 1):=by decide+kernel
theorem inSet_at(s:UInt8)(k:Nat)(h1:1≤ k)(h2:k≤ 7):inSet s.toNat k=(bits .and .u8 ((s.toNat:Int)/((2^(k-1):Nat):Int)) 1==1):=by
 rw[bit_and ⟨s.toNat,s.toNat_lt⟩ ⟨k-1,by omega⟩];unfold inSet;rw[decide_eq_decide];exact⟨fun h=>h.2.2,fun h=>⟨h1,h2,h⟩⟩
def RetB0(w:World)(r:Bool)(e:Ending)(w':World):Prop:= e= .returned (.bool r)∧w'= w
theorem has_any(s:UInt8)(k:Nat)(w:World)(h1:1≤ k)(h2:k≤ 7):Calls Tryz.prog 97 #[B s,.int .i64 k] w (RetB0 w (inSet s.toNat k)):=by
 have HI:=h_ (inSet_at s k h1 h2);generalize inSet s.toNat k=r at HI ⊢;obtain rfl|rfl| rfl|rfl| rfl|rfl| rfl:k= 1∨k= 2∨k= 3∨k= 4∨k= 5∨k= 6∨k= 7:=o_
 all_goals
  go_enter Tryz.func97,Tryz.ntmps97;go_wp2_with fail;go_ret;exact⟨congrArg (fun b=>Ending.returned (.bool b)) (by first|exact HI.symm|(rw[HI.out];simp)),rfl⟩
end Go.Proofs.YtoeofkcpclfnhaaGreat
namespace Go.Proofs.YtoeofkcpclfnhaaGreat
set_option maxHeartbeats 16000000
section
variable {α:Type} {p q:α→ Bool} {xs us:List α} {i j k:Nat}
def idxL(p:α→ Bool)(xs:List α):Int:= match xs.findIdx? p with|some k=>(k:Int)|none=> -1
theorem idxL_some(hk:k< xs.length)(hno:∀j (h:j< xs.length),j<k→ p xs[j]=false)(hp:p xs[k]=true):idxL p xs=k:= by
 have:xs.findIdx? p=some k:=by
  rw[List.findIdx?_eq_some_iff_getElem];exact⟨hk,hp,fun j hj=>by rw[hno j o_ hj];simp⟩
 unfold idxL;rw[this]
theorem idxL_none(hno:∀j (h:j< xs.length),p xs[j]=false):idxL p xs= -1:= by
 have:xs.findIdx? p=none:= by
  rw[List.findIdx?_eq_none_iff];intro x hx;obtain⟨j,hj,rfl⟩:=List.mem_iff_getElem.1 hx;exact hno j hj
 unfold idxL;rw[this]
theorem idxL_ways(p:α→ Bool)(xs:List α):(idxL p xs= -1∧ ∀x∈ xs,p x=false)∨∃k,∃hk: k<xs.length,idxL p xs=k∧ p xs[k]=true∧ ∀j (h:j< xs.length),j<k→ p xs[j]=false:= by
 unfold idxL;cases h:xs.findIdx? p with
 |none=> exact .inl ⟨rfl,List.findIdx?_eq_none_iff.1 h⟩
 |some k=>
  obtain⟨hk,h1,h2⟩:=List.findIdx?_eq_some_iff_getElem.1 h;exact .inr ⟨k,hk,rfl,h1,fun j hj hlt=>by simpa using h2 j hlt⟩
theorem idxL_find(p:α→ Bool)(xs:List α):(idxL p xs= -1∧ xs.find? p=none)∨∃k,∃hk: k<xs.length,idxL p xs=k∧ xs.find? p=some xs[k]:=by
 rcases idxL_ways p xs with⟨h1,h2⟩|⟨k,hk,h1,h2,h3⟩
 ·exact .inl ⟨h1,List.find?_eq_none.2 fun x hx=>by rw[h2 x hx];simp⟩
 ·exact .inr ⟨k,hk,h1,List.find?_eq_some_iff_getElem.2 ⟨h2,k,hk,rfl,fun j hj=>by rw[h3 j o_ hj];rfl⟩⟩
end
end Go.Proofs.YtoeofkcpclfnhaaGreat
namespace Go.Proofs.YtoeofkcpclfnhaaGreat
open Go.ChangeShapes Go.WideShapes Go.ChangeAt Go.RowKit
set_option maxRecDepth 100000
set_option maxHeartbeats 16000000
theorem indexFuncPrg(xs:List Prg)(a:Option Addr)(n c:Nat)(fid:FuncId)(cap:Array Value)(p:Prg→ Bool)(w:World)(hn:xs.length= n)(hl:n≤ maxLen)(hr:LRow layPrg w a xs)(hcf:∀(args:Array Value) (w:World),(callFunc fid args).run Tryz.prog w= .ok (.enter fid args) w)(hf:∀x∈ xs,∀w',Below w.heap.size w w'→Calls Tryz.prog fid (#[(layPrg).val x]++cap) w' fun e w''=>e= .returned (.bool (p x))∧Below w'.heap.size w' w''):
 Calls Tryz.prog 94 #[.slice a n c,.func (.func fid) #[] cap] w fun e w'=>e= .returned (.int .i64 (idxL p xs))∧Below w.heap.size w w':=by
 subst hn;have hl2:=lt_maxLen hl;have HI:=h_ (fun k (hk:k< xs.length)=>idxL_some (p:=p) hk);have HN:=h_ (idxL_none (p:=p) (xs:=xs));have HF:=h_ hf;generalize idxL p xs=res at HI HN ⊢;clear hf;go_enter Tryz.func94,Tryz.ntmps94;go_wp2;go_loopw [8] (fun i wr=>∃k: Nat,k≤xs.length∧ i= .int .i64 k∧(∀j (h:j< xs.length),j<k→ p xs[j]=false)∧Below w.heap.size w wr) (fun i _=>xs.length- (intOf i).toNat)
 case atStart=>exact ⟨0,by omega,rfl,by omega,Below.refl _ _⟩
 case round=>
  obtain⟨k,hk,rfl,hno,hb⟩:=hrel;have HNO:=h_ hno;clear hno;by_cases hlt:k< xs.length
  ·obtain⟨b,o,rfl,hcs⟩:=hr.range hlt;have hrange:=h_ (hcs _ hb);have HF1:=h_ (HF xs[k] (List.getElem_mem hlt) wr hb);clear hcs;cases hp:p xs[k]with
   |true=>
    go_wp2_with(first|(refine wpList_load_lay layPrg rfl _ rfl b (o+k* (layPrg).size) rfl _ hrange.out ?_)|(refine HF1.mono ?_;rw[hp];rintro e w2 ⟨rfl,hb2⟩));go_returns;exact⟨ret_int (HI k hlt HNO.out hp).symm,hb.trans (hb2.mono hb.size)⟩
   |false=>
    go_wp2_with(first|(refine wpList_load_lay layPrg rfl _ rfl b (o+k* (layPrg).size) rfl _ hrange.out ?_)|(refine HF1.mono ?_;rw[hp];rintro e w2 ⟨rfl,hb2⟩));go_roundw
    case rel=>exact ⟨k+1,by omega,by go_num,fun j h hj=>by rcases Nat.lt_succ_iff_lt_or_eq.1 hj with h1|rfl;exact HNO.out j h h1;exact hp,hb.trans (hb2.mono hb.size)⟩
    case measure=>simp [intOf];omega
  ·go_wp2;go_returns;exact⟨ret_int (HN fun j h=>HNO.out j h o_).symm,hb⟩
def prgOf(l:List Prg)(k:Int):Prg:= match l.find? (fun p=>decide (p.node=k))with|some p=>p| none=>⟨0,0,0⟩
def hasP(l:List Prg)(k:Int):Bool:= (l.find? (fun p=>decide (p.node=k))).isSome
theorem prgOf_mat(l:List Prg)(k:Int):(prgOf l k).mat=matOf l k:=by
 induction l with
 |nil=> rfl
 |cons p l ih=>
  unfold prgOf at*;rw[List.find?_cons];show _=if p.node=k then p.mat else matOf l k
  by_cases h:p.node= k
  ·simp[h]
  ·simp only[h,decide_false,if_false];exact ih
def RetFind(w:World)(p:Prg)(b:Bool)(e:Ending)(w':World):Prop:= e= .returned (.tuple #[p.agg,.bool b])∧Below w.heap.size w w'
theorem of_any(k:Int)(w:World):Calls Tryz.prog 95 #[.int .i64 k] w fun e w'=>e= .returned (.func (.func 101) #[] #[.pointer (some ⟨w.heap.size,0,none⟩)])∧w'= w.alloc (.cells #[.int .i64 k] 3):=by
 go_enter Tryz.func95,Tryz.ntmps95;go_wp2_with fail;go_ret;exact⟨rfl,rfl⟩
theorem enter_ofc(args:Array Value)(w:World):(callFunc 101 args).run Tryz.prog w= .ok (.enter 101 args) w:=k_
theorem ofc_any(p:Prg)(g:Nat)(k:Int)(w:World)(hg:w.cell? ⟨g,0,none⟩=some (.int .i64 k)):Calls Tryz.prog 101 #[p.agg,.pointer (some ⟨g,0,none⟩)] w (RetSame w (decide (p.node=k))):=by
 obtain⟨p0,p1,p2⟩:=p;have hlt:=World.block_lt_of_cell? w _ hg;simp only at hlt;go_enter Tryz.func101,Tryz.ntmps101;go_wp2_with fail;go_ret;refine⟨congrArg (fun b=>Ending.returned (.bool b)) ?_,mid_alloc' b_⟩;show(p0==k)=decide (p0=k)
 rw[Bool.eq_iff_iff];simp
theorem find_any(l:List Prg)(a:Option Addr)(n c:Nat)(k:Int)(w:World)(hn:l.length= n)(hl:n≤ 1000000)(hr:LRow layPrg w a l):
 Calls Tryz.prog 92 #[.slice a n c,.int .i64 k] w (RetFind w (prgOf l k) (hasP l k)):=by
 have HR:=h_ (fun w' (hb:Below w.heap.size w w')=>LRow.below hr hb);have HO:=h_ (fun w'=>of_any k w');have HX:=h_ (fun g w' (hb:Below w.heap.size w w') (hg:w'.cell? ⟨g,0,none⟩=some (.int .i64 k))=>indexFuncPrg l a n c 101 #[.pointer (some ⟨g,0,none⟩)] (fun p=>decide (p.node=k)) w' hn (by unfold maxLen;omega) (LRow.below hr hb) enter_ofc (fun x _ w'' hb2=>(ofc_any x g k w'' (cell_next hb2 hg)).mono fun _ _ h=>h));have HFD:=h_ (idxL_find (fun p:Prg=> decide (p.node=k)) l);obtain⟨r,hrr⟩:∃r,prgOf l k=r:= ⟨_,rfl⟩;obtain⟨hb,hhb⟩:∃r,hasP l k=r:= ⟨_,rfl⟩;rw[hrr,hhb];obtain⟨q,hq⟩:∃q,idxL (fun p:Prg=> decide (p.node=k)) l=q:= ⟨_,rfl⟩;rw[hq]at HX HFD;have HZ:Hid (Below w.heap.size w (w.alloc (.cells #[.int .i64 0,.int .i64 0,.int .i64 0] 116))):=mid_alloc' b_;rcases HFD.out with⟨h1,h2⟩|⟨j,hj,h1,h2⟩
 ·have er:r= ⟨0,0,0⟩:=by rw[←hrr];unfold prgOf;rw[h2]
  have eb:hb= false:=by rw[←hhb];unfold hasP;rw[h2];rfl
  clear hrr hhb hq h2 hr hn HFD;subst er eb h1;go_enter Tryz.func92,Tryz.ntmps92;go_wp2_with(first|(have hgq:=HOC;clear hgq;go_at_call 94;((with_reducible refine(HX.out _ _ HB1.out HOC.out).mono ?_);rintro e w2 ⟨rfl,hb2⟩;have HB2:=h_ (HB1.trans (hb2.mono HB1.size));have hbx:=Box.of_alloc (w:=w) (cs:=[.int .i64 0,.int .i64 0,.int .i64 0]) (t:=116) (HBX.trans (hb2.mono HBX.size));have z0:=hbx.cell (j:=0) rfl;have z1:=hbx.cell (j:=1) rfl;have z2:=hbx.cell (j:=2) rfl;have y0:=hbx.froz (j:=0) (by simp);have y1:=hbx.froz (j:=1) (by simp);have y2:=hbx.froz (j:=2) (by simp);clear hbx hb2))|(go_at_call 95;((with_reducible refine(HO.out _).mono ?_);rintro e w1 ⟨rfl,hw⟩;have hbz:Below (w.alloc (.cells #[.int .i64 0,.int .i64 0,.int .i64 0] 116)).heap.size (w.alloc (.cells #[.int .i64 0,.int .i64 0,.int .i64 0] 116)) w1:=by {rw[hw];exact b_.alloc n_ _};have HOC:Hid (w1.cell? ⟨w.heap.size+1,0,none⟩=some (.int .i64 k)):=by {show _=_;rw[hw];simp};have HBX:=h_ hbz;have HB1:=h_ (HZ.trans (hbz.mono HZ.size));clear hw hbz)));refine bodyPost_ret (v:= .tuple #[.agg #[.int .i64 0,.int .i64 0,.int .i64 0],.bool false]) (by simp[results,Tryz.results92,go_sem,z0,z1,z2,y0,y1,y2]) rfl ⟨rfl,((HB2.setCell n_ _).setCell n_ _).setCell n_ _⟩
 ·have er:r= l[j]:=by rw[←hrr];unfold prgOf;rw[h2]
  have eb:hb= true:=by rw[←hhb];unfold hasP;rw[h2];rfl
  obtain⟨bb,oo,ha,hcs⟩:=atPrg hr hj;subst ha;have HJ:=h_ hcs;have hjn:j< n:=o_;clear hrr hhb hq h2 hn HFD hcs;subst h1 eb;generalize l[j]=x at er HJ;obtain⟨x0,x1,x2⟩:=x;subst er;clear hr;go_enter Tryz.func92,Tryz.ntmps92;go_wp2_with(first|(have hgq:=HOC;clear hgq;go_at_call 94;((with_reducible refine(HX.out _ _ HB1.out HOC.out).mono ?_);rintro e w2 ⟨rfl,hb2⟩;have HB2:=h_ (HB1.trans (hb2.mono HB1.size));have hbx:=Box.of_alloc (w:=w) (cs:=[.int .i64 0,.int .i64 0,.int .i64 0]) (t:=116) (HBX.trans (hb2.mono HBX.size));have z0:=hbx.cell (j:=0) rfl;have z1:=hbx.cell (j:=1) rfl;have z2:=hbx.cell (j:=2) rfl;have y0:=hbx.froz (j:=0) (by simp);have y1:=hbx.froz (j:=1) (by simp);have y2:=hbx.froz (j:=2) (by simp);have⟨j0,j1,j2⟩:=HJ.out _ HB2.out;clear hbx hb2))|(go_at_call 95;((with_reducible refine(HO.out _).mono ?_);rintro e w1 ⟨rfl,hw⟩;have hbz:Below (w.alloc (.cells #[.int .i64 0,.int .i64 0,.int .i64 0] 116)).heap.size (w.alloc (.cells #[.int .i64 0,.int .i64 0,.int .i64 0] 116)) w1:=by {rw[hw];exact b_.alloc n_ _};have HOC:Hid (w1.cell? ⟨w.heap.size+1,0,none⟩=some (.int .i64 k)):=by {show _=_;rw[hw];simp};have HBX:=h_ hbz;have HB1:=h_ (HZ.trans (hbz.mono HZ.size));clear hw hbz)));refine bodyPost_ret (v:= .tuple #[.agg #[.int .i64 x0,.int .i64 x1,.int .i64 x2],.bool true]) (by simp[results,Tryz.results92,go_sem,z0,z1,z2,y0,y1,y2]) rfl ⟨rfl,((HB2.setCell n_ _).setCell n_ _).setCell n_ _⟩
end Go.Proofs.YtoeofkcpclfnhaaGreat
namespace Go.Proofs.YtoeofkcpclfnhaaGreat
set_option maxHeartbeats 16000000
def sw(l:List Int)(j:Nat):List Int:=(l.set j (l.getD (j-1) 0)).set (j-1) (l.getD j 0)
theorem getD_of{l:List Int}{k:Nat}(h:k< l.length):l.getD k 0=l[k]:=by
 rw[List.getD_eq_getElem?_getD,List.getElem?_eq_getElem h];rfl
theorem sw_perm{l:List Int}{j:Nat}(h:j< l.length):(sw l j).Perm l:=by
 unfold sw;rw[getD_of h,getD_of (show j-1< l.length by omega)];exact List.set_set_perm h o_
theorem sw_at{l:List Int}{j:Nat}(h:j< l.length)(q:Nat):(sw l j).getD q 0=if q=j- 1 then l.getD j 0 else if q=j then l.getD (j-1) 0 else l.getD q 0:=by
 have h1:j- 1<l.length:= o_;unfold sw;rw[List.getD_eq_getElem?_getD,List.getElem?_set];by_cases a:q= j-1
 ·rw[if_pos a.symm,if_pos a,if_pos (by rw[List.length_set];omega)];rfl
 ·rw[if_neg (fun e=>a e.symm),if_neg a,List.getElem?_set];by_cases b:q= j
  ·rw[if_pos b.symm,if_pos b,if_pos o_];rfl
  ·rw[if_neg (fun e=>b e.symm),if_neg b,←List.getD_eq_getElem?_getD]
def SB(l:List Int)(i j:Nat):Prop:= ∀p q,p<q→ q≤i→ q≠j→ l.getD q 0≤l.getD p 0
def Srt(l:List Int)(i:Nat):Prop:= ∀p q,p<q→ q≤i→ l.getD q 0≤l.getD p 0
theorem SB.step{l:List Int}{i j:Nat}(h:SB l i j)(h1:1≤ j)(h2:j≤ i)(h3:i< l.length)(h4:l.getD (j-1) 0<l.getD j 0):SB (sw l j) i (j-1):=by
 intro p q hpq hq hne;rw[sw_at o_,sw_at o_,if_neg hne];by_cases a:q= j
 ·rw[if_pos a];by_cases b:p= j-1
  ·rw[if_pos b];omega
  ·rw[if_neg b,if_neg o_];exact h p (j-1) o_ o_ o_
 ·rw[if_neg a];by_cases b:p= j-1
  ·rw[if_pos b];exact h j q o_ hq a
  ·rw[if_neg b];by_cases c:p= j
   ·rw[if_pos c];exact h (j-1) q o_ hq a
   ·rw[if_neg c];exact h p q hpq hq a
theorem SB.done{l:List Int}{i j:Nat}(h:SB l i j)(h2:j≤ i)(h4:j= 0∨l.getD j 0≤l.getD (j-1) 0):Srt l i:=by
 intro p q hpq hq;by_cases a:q= j
 ·subst a;rcases h4 with h4|h4
  ·omega
  ·by_cases b:p= q-1
   ·subst b;exact h4
   ·exact Int.le_trans h4 (h p (q-1) o_ o_ o_)
 ·exact h p q hpq hq a
theorem Srt.next{l:List Int}{i:Nat}(h:Srt l i):SB l (i+1) (i+1):=fun p q hpq hq hne=>h p q hpq o_
theorem Srt.zero(l:List Int):Srt l 0:=fun p q hpq hq=>by omega
theorem Srt.pair{l:List Int}{i:Nat}(h:Srt l i)(hi:l.length≤ i+1):l.Pairwise (fun a b=>b≤ a):=by
 rw[List.pairwise_iff_getElem];intro p q hp hq hpq;have:=h p q hpq o_;rw[getD_of hp,getD_of hq]at this;exact this
end Go.Proofs.YtoeofkcpclfnhaaGreat
namespace Go.Proofs.YtoeofkcpclfnhaaGreat
open Go.ChangeShapes Go.WideShapes Go.ChangeAt Go.RowKit
set_option maxRecDepth 100000
set_option maxHeartbeats 16000000
def cmpI(x y:Int):Int:= if x<y then-1 else if y<x then 1 else 0
theorem cmpI_neg(x y:Int):decide (cmpI x y<0)=decide (x<y):=by
 unfold cmpI;by_cases h:x< y
 ·simp[h]
 ·rw[if_neg h];split<;>simp [h]
theorem nan_any(x:Int)(w:World):Calls Tryz.prog 107 #[.int .i64 x] w (RetB0 w false):=by
 go_enter Tryz.func107,Tryz.ntmps107;go_wp2_with fail;go_ret;exact⟨by simp,rfl⟩
def RetN0(w:World)(r:Int)(e:Ending)(w':World):Prop:= e= .returned (.int .i64 r)∧w'= w
theorem compare_any(x y:Int)(w:World):Calls Tryz.prog 104 #[.int .i64 x,.int .i64 y] w (RetN0 w (cmpI x y)):=by
 have HE:Hid (∀r: Int,(x<y→ r= -1)→(y<x→ r=1)→(¬x< y→¬y< x→r= 0)→cmpI x y=r):=fun r h1 h2 h3=>by
  unfold cmpI;by_cases a:x< y
  ·rw[if_pos a,h1 a]
  ·rw[if_neg a];by_cases b:y< x
   ·rw[if_pos b,h2 b]
   ·rw[if_neg b,h3 a b]
 generalize cmpI x y=r at HE ⊢;go_enter Tryz.func104,Tryz.ntmps104;go_wp2_with(go_at_call 107;((with_reducible refine(nan_any _ _).mono ?_);rintro e w' ⟨rfl,rfl⟩))
 all_goals(go_ret;exact⟨ret_int (HE _ (fun _=>by first|rfl| (exfalso;omega)) (fun _=>by first|rfl| (exfalso;omega)) (fun _ _=>by first|rfl| (exfalso;omega))).symm,rfl⟩)
theorem downc_any(x y:Int)(w:World):Calls Tryz.prog 103 #[.int .i64 x,.int .i64 y] w (RetN0 w (cmpI y x)):=by
 have HC:=h_ (fun w'=>compare_any y x w');generalize cmpI y x=r at HC ⊢;go_enter Tryz.func103,Tryz.ntmps103;go_wp2_with(go_at_call 104;((with_reducible refine(HC.out _).mono ?_);rintro e w' ⟨rfl,rfl⟩));go_ret;exact⟨rfl,rfl⟩
abbrev ints(l:List Int):List Value:=l.map (Value.int .i64)
theorem ints_at{l:List Int}{k:Nat}(h:k< l.length):(ints l)[k]? =some (.int .i64 (l.getD k 0)):=by
 rw[getD_of h];unfold ints;rw[List.getElem?_map,List.getElem?_eq_getElem h];rfl
theorem only_set{g i:Nat}{w w':World}(h:Only g w w')(v:Value):Only g w (w'.setCell ⟨g,i,none⟩ v):=
 h.put (fun B hB=>b_.setCell hB _) (fun k hk=>Below.heap_setCell _ _ _ _ (fun e=>hk e))
theorem only_drewN{g:Nat}{w w':World}(h:Only g w w')(n:Nat):Only g w (w'.drewN n):=h.next (below_drewN b_ n)
theorem box_drewN{g:Nat}{w:World}{cs:List Value}(h:Box w g cs)(n:Nat):Box (w.drewN n) g cs:=h.block rfl
theorem box_sw{w:World}{g:Nat}{l:List Int}{j:Nat}(h:Box w g (ints l))(h1:1≤ j)(hj:j< l.length):Box ((w.setCell ⟨g,j,none⟩ (.int .i64 (l.getD (j-1) 0))).setCell ⟨g,j-1,none⟩ (.int .i64 (l.getD j 0))) g (ints (sw l j)):=by
 have a:=(h.set (i:=j) (by simpa[ints]using hj) (.int .i64 (l.getD (j-1) 0))).set (i:=j- 1) (by simp[ints];omega) (.int .i64 (l.getD j 0));have e:ints (sw l j)=((ints l).set j (.int .i64 (l.getD (j-1) 0))).set (j-1) (.int .i64 (l.getD j 0)):=by unfold ints sw;rw[List.map_set,List.map_set]
 rw[e];exact a
def RetSort(w:World)(g:Nat)(l:List Int)(e:Ending)(w':World):Prop:= e= .returned (.tuple #[])∧∃s: List Int,s.Perm l∧s.Pairwise (fun a b=>b≤ a)∧Box w' g (ints s)∧Only g w w'
theorem insertion_any(g n c:Nat)(l:List Int)(w:World)(hn:l.length= n)(h1:1≤ n)(h7:n≤ 7)(hc:n≤ c)(hx:Box w g (ints l)):
 Calls Tryz.prog 108 #[.slice (some ⟨g,0,none⟩) n c,.int .i64 0,.int .i64 n,.func (.func 103) #[] #[]] w (RetSort w g l):=by
 have HX:=h_ hx;have HN:=h_ hn;clear hx hn;go_enter Tryz.func108,Tryz.ntmps108;go_wp2_with fail;go_loopw [8] (fun i wr=>∃(m:Nat) (l1:List Int),1≤m∧ m≤n∧ i= .int .i64 m∧Hid (l1.Perm l)∧Hid (Srt l1 (m-1))∧Hid (Box wr g (ints l1))∧Hid (Only g w wr)) (fun i _=>n- (intOf i).toNat)
 case atStart=>exact ⟨1,l,Nat.le_refl _,h1,rfl,List.Perm.refl _,Srt.zero _,HX.out,Only.refl _ _⟩
 case round=>
  clear HX;obtain⟨m,l1,hm1,hmn,rfl,HP,HS,HB,HO⟩:=hrel;obtain⟨wo,hwo⟩:∃wo,wo=wr:= ⟨_,rfl⟩;subst hwo;have HL1:Hid (l1.length=n):=HP.length_eq.trans HN.out;by_cases hlt:m< n
  ·go_wp2_with fail;go_loopw [9] (fun jv wq=>∃(j:Nat) (l2:List Int),j≤m∧ jv= .int .i64 j∧Hid (l2.Perm l)∧Hid (SB l2 m j)∧Hid (Box wq g (ints l2))∧Hid (Only g w wq)) (fun jv _=>(intOf jv).toNat)
   case atStart=>exact ⟨m,l1,Nat.le_refl _,rfl,HP.out,by have:=HS.next;rw[Nat.sub_add_cancel hm1]at this;exact this,HB.out,HO.out⟩
   case round=>
    clear HP HS HB HO HL1;obtain⟨j,l2,hj,rfl,HP,HS,HB,HO⟩:=hrel;have HL2:Hid (l2.length=n):=HP.length_eq.trans HN.out;by_cases h0:0< j
    ·have hjl:j< l2.length:=by rw[HL2.out];omega
     have x0:=HB.cell (ints_at hjl);have x1:=HB.cell (ints_at (show j-1< l2.length by omega));have z0:=HB.froz (j:=j) (by rw[List.length_map];exact hjl);have z1:=HB.froz (j:=j- 1) (by rw[List.length_map];omega);have HSW:=h_ (fun w' (h:Box w' g (ints l2))=>box_sw h h0 hjl);have HST:=h_ (fun h=>HS.step h0 hj (by rw[HL2.out];exact hlt) h);have HDN:=h_ (fun h=>HS.done hj (.inr h));have HPS:=h_ ((sw_perm hjl).trans HP.out);generalize l2.getD j 0=x at x0 HSW HST HDN;generalize l2.getD (j-1) 0=y at x1 HSW HST HDN;have HDC:=h_ (fun nq=>(downc_any x y (wr.drewN nq)).mono (fun _ _ h=>(⟨h.1,h.2⟩:_∧ _)));have hcn:=cmpI_neg y x;have HCE:=h_ hcn;clear hcn hjl;have g1:IntKind.i64.wrap ((j:Int)-1)=(j:Int)-1:= IntWalk.i64_in _ o_;have g2:(0:Int)≤(j:Int)-1:= o_;have g3:(j:Int)-1< (n:Int):=o_;have g4:((j:Int)-1).toNat=j- 1:=o_;have g5:(j:Int)<(n:Int):=o_;have hd:decide (0<j)=true:= decide_eq_true h0;rcases hyx:decide (y<x)with _|_
     ·have hcf:decide (cmpI y x<0)=false:= HCE.trans hyx;generalize cmpI y x=cv at HDC hcf;go_wp2_with fail;go_quiet ((exact Calls.quiet_of_same (HDC _)));go_wp2_with fail;go_roundw
      case rel=>exact ⟨m+1,l2,by omega,by omega,by go_num,HP.out,HDN.out (by have:=of_decide_eq_false hyx;omega),box_drewN HB.out _,only_drewN HO.out _⟩
      case measure=>simp [intOf];omega
     ·have hcf:decide (cmpI y x<0)=true:= HCE.trans hyx;generalize cmpI y x=cv at HDC hcf;go_wp2_with fail;go_quiet ((exact Calls.quiet_of_same (HDC _)));go_wp2_with fail;go_region;go_wp2_with fail;go_roundw
      case rel=>exact ⟨j-1,sw l2 j,by omega,congrArg (Value.int .i64) o_,HPS.out,HST.out (of_decide_eq_true hyx),HSW.out _ (box_drewN HB.out _),only_set (only_set (only_drewN HO.out _) _) _⟩
      case measure=>simp [intOf];omega
    ·obtain rfl:j= 0:=o_;have hd:decide ((0:Int)<0)=false:= rfl;go_wp2_with fail;go_quiet (fail);go_wp2_with fail;go_roundw
     case rel=>exact ⟨m+1,l2,by omega,by omega,by go_num,HP.out,HS.done o_ (.inl rfl),box_drewN HB.out _,only_drewN HO.out _⟩
     case measure=>simp [intOf];omega
  ·obtain rfl:m= n:=o_;go_wp2_with fail;go_end0;exact⟨rfl,l1,HP.out,HS.pair (by rw[HL1.out];omega),HB.out,HO.out⟩
def RetSomeI(w:World)(e:Ending)(w':World):Prop:= ∃r: Int,e= .returned (.int .i64 r)∧w'= w
theorem len64_any(n:Nat)(w:World)(h:n≤ 7):Calls Tryz.prog 117 #[.int .u64 n] w (RetSomeI w):=by
 obtain rfl|rfl| rfl|rfl| rfl|rfl| rfl|rfl: n=0∨ n=1∨ n=2∨ n=3∨ n=4∨ n=5∨ n=6∨ n=7:= o_
 all_goals
  go_enter Tryz.func117,Tryz.ntmps117;go_wp2_with fail;go_ret;exact⟨_,rfl,rfl⟩
theorem len_any(n:Nat)(w:World)(h:n≤ 7):Calls Tryz.prog 106 #[.int .u64 n] w (RetSomeI w):=by
 have HL:=h_ (fun w'=>len64_any n w' h);go_enter Tryz.func106,Tryz.ntmps106;go_wp2_with(go_at_call 117;((with_reducible refine(HL.out _).mono ?_);rintro e w2 ⟨r,rfl,rfl⟩));go_ret;exact⟨_,rfl,rfl⟩
theorem pdq_any(g n c:Nat)(l:List Int)(lim:Int)(w:World)(hn:l.length= n)(h1:1≤ n)(h7:n≤ 7)(hc:n≤ c)(hx:Box w g (ints l)):
 Calls Tryz.prog 105 #[.slice (some ⟨g,0,none⟩) n c,.int .i64 0,.int .i64 n,.int .i64 lim,.func (.func 103) #[] #[]] w (RetSort w g l):=by
 have HI:=h_ (insertion_any g n c l w hn h1 h7 hc hx);have HN:=h_ hn;have hd:decide ((n:Int)≤12)=true:= decide_eq_true o_;clear hx hn;go_enter Tryz.func105,Tryz.ntmps105;go_wp2_with fail;go_loopw [1,2,3] (fun a b q wr=>a= .int .i64 0∧b= .int .i64 n∧q= .int .i64 lim∧wr= w) (fun _ _ _ _=>0)
 case atStart=>exact ⟨rfl,rfl,rfl,rfl⟩
 case round=>
  obtain⟨rfl,rfl,rfl,hw⟩:=hrel;subst hw;go_wp2_with(go_at_call 108;((with_reducible refine HI.out.mono ?_);rintro e w2 ⟨rfl,hs⟩;have HS:=h_ hs;clear hs));go_end0;exact⟨rfl,HS.out⟩
theorem sortFunc_any(g n c:Nat)(l:List Int)(w:World)(hn:l.length= n)(h1:1≤ n)(h7:n≤ 7)(hc:n≤ c)(hx:Box w g (ints l)):
 Calls Tryz.prog 102 #[.slice (some ⟨g,0,none⟩) n c,.func (.func 103) #[] #[]] w (RetSort w g l):=by
 have HP:=h_ (fun lim=>pdq_any g n c l lim w hn h1 h7 hc hx);have HL:=h_ (fun w'=>len_any n w' h7);have HN:=h_ hn;clear hx hn;go_enter Tryz.func102,Tryz.ntmps102;go_wp2_with(first|(go_at_call 106;((with_reducible refine(HL.out _).mono ?_);rintro e w2 ⟨r,rfl,rfl⟩))|(go_at_call 105;((with_reducible refine(HP.out _).mono ?_);rintro e w2 ⟨rfl,hs⟩;have HS:=h_ hs;clear hs)));go_end0;exact⟨rfl,HS.out⟩
theorem down_any(g n c:Nat)(l:List Int)(w:World)(hn:l.length= n)(h1:1≤ n)(h7:n≤ 7)(hc:n≤ c)(hx:Box w g (ints l)):
 Calls Tryz.prog 98 #[.slice (some ⟨g,0,none⟩) n c] w (RetSort w g l):=by
 have HP:=h_ (sortFunc_any g n c l w hn h1 h7 hc hx);have HN:=h_ hn;clear hx hn;go_enter Tryz.func98,Tryz.ntmps98;go_wp2_with(go_at_call 102;((with_reducible refine HP.out.mono ?_);rintro e w2 ⟨rfl,hs⟩;have HS:=h_ hs;clear hs));go_end0;exact⟨rfl,HS.out⟩
end Go.Proofs.YtoeofkcpclfnhaaGreat
