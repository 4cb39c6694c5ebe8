import Derived.Deep.RegionHeld3
import Derived.Deep.DeepMust
import Derived.Test.YtfdmhpohfjbpfaaGreatSr02
set_option linter.unusedVariables false
set_option linter.unusedSimpArgs false
namespace Go.Proofs.YtfdmhpohfjbpfaaGreat
open Go.ChangeShapes Go.WideShapes Go.ChangeAt Go.RowKit
set_option maxRecDepth 100000
set_option maxHeartbeats 16000000
theorem G0(id:Int)(ts:List aj):(cw id ts).length≤ts.length:= by
 unfold cw;split
 ·simp;omega
 ·exact Nat.le_refl _
theorem O7(x:aj)(ts:List aj):putAt x ts≤ts.length:= by
 unfold putAt;split
 ·rename_i k h;exact Nat.le_of_lt (List.findIdx?_eq_some_iff_getElem.1 h).1
 ·exact Nat.le_refl _
theorem Dp{w:World}{x:aj}:∀w',Below (w.alloc (.cells (gW x.id x.aK x.aq x.bucket x.gone) 75)).heap.size (w.alloc (.cells (gW x.id x.aK x.aq x.bucket x.gone) 75)) w'→
 w'.cell? ⟨w.heap.size,0,none⟩=some (.int .i64 x.id)∧w'.cell? ⟨w.heap.size,1,none⟩=some (.int .i64 x.aK)∧w'.cell? ⟨w.heap.size,2,none⟩=some (.int .i64 x.aq)∧w'.cell? ⟨w.heap.size,3,none⟩=some (.int .i64 x.bucket)∧w'.cell? ⟨w.heap.size,4,none⟩=some (.bool x.gone):=by
 intro w' hb;have h:=fun j=>(hb.cell (p:=⟨w.heap.size,j,none⟩) (by simp)).trans (World.cell?_alloc_at _ _ _ j rfl)
 exact⟨h 0,h 1,h 2,h 3,h 4⟩
theorem pj(ts:List aj)(a:Option Addr)(n c:Nat)(x:aj)(w:World)(hn:ts.length= n)(hl:ts.length≤ 1000)(hc:a= none→c= 0)(hnc:n≤ c)(hr:dK w a ts):
 Calls Tryz.prog 116 #[.slice a n c,x.agg] w (KI w none (dE x ts)):=by
 subst hn;have hx:=Dp (w:=w) (x:=x);have HX:=h_ hx;clear hx;have hle:=G0 x.id ts;have Ym:=O7 x (cw x.id ts);have hr1:dK (w.alloc (.cells (gW x.id x.aK x.aq x.bucket x.gone) 75)) a ts:=Row.alloc hr _;have HW:Hid (dE x ts=(cw x.id ts).take (putAt x (cw x.id ts))++x:: (cw x.id ts).drop (putAt x (cw x.id ts))):=rfl;generalize dE x ts=out at HW ⊢;generalize hts:cw x.id ts=l2 at hle Ym HW;have HTS:=h_ hts;clear hts;obtain⟨r,q,Rg,hput,hrq⟩:∃(r:Int) (q:Nat),idx (fun y=>decide (x.id<y.id)) l2=r∧ putAt x l2=q∧ (r=q∨ (r= -1∧ q=l2.length)):=by
  unfold idx putAt;cases hf:l2.findIdx? (fun y=>decide (x.id<y.id))with
  |none=> exact⟨-1,l2.length,rfl,rfl,.inr ⟨rfl,rfl⟩⟩
  |some k=>exact ⟨k,k,rfl,rfl,.inl rfl⟩
 rw[hput]at Ym HW;have aaL:=h_ Rg;clear hput Rg
 have hmid:Hid (∀w2 a2 c2,l2.length≤c2→ dK w2 a2 l2→(∀w',Below w2.heap.size w2 w'→w'.cell? ⟨w.heap.size,0,none⟩=some (.int .i64 x.id))→
  Calls Tryz.prog 162 #[.slice a2 l2.length c2,.func (.func 163) #[] #[.pointer (some ⟨w.heap.size,0,none⟩)]] w2 fun e w'=>e= .returned (.int .i64 r)∧Below w2.heap.size w2 w'):=by
  intro w2 a2 c2 h1 h2 h3;have:=Fv l2 a2 _ c2 163 #[.pointer (some ⟨w.heap.size,0,none⟩)] (fun y=>decide (x.id<y.id)) w2 rfl (bD o_) h2 Fp
   (fun t _ w' hb=>Mq t x.id _ w' (h3 w' hb))
  rw[aaL.out]at this;exact this
 rcases hrq with rfl|⟨rfl,rfl⟩
 ·go_enter Tryz.func116,Tryz.ntmps116;go_wp2_with(first|(go_at_call 117;((with_reducible refine(rN ts _ _ _ _ _ rfl hl hc hnc hr1).mono ?_);rw[HTS.out];rintro e w2 ⟨a2,c2,rfl,Ov,_,_,hr2,hb2⟩;obtain⟨x0,x1,x2,x3,x4⟩:=HX.out _ hb2))|(go_at_call 162;((with_reducible refine(hmid.out _ _ _ Ov hr2 (fun w' hb=>(HX.out _ (hb2.trans (hb.mono hb2.size))).1)).mono ?_);rintro e w3 ⟨rfl,hb3⟩;have nT:=hb2.trans (hb3.mono hb2.size);obtain⟨x0,x1,x2,x3,x4⟩:=HX.out _ nT)));have hr3:dK w3 a2 l2:=hr2.below hb3;have k0:(0:Int)≤(q:Int):=o_;have k1:(q:Int)≤(c2:Int):=o_;have k3:(q:Int)≤(l2.length:Int):=o_;go_region_held3 (fun w'=>w'.cell? ⟨w.heap.size,0,none⟩=some (.int .i64 x.id)∧w'.cell? ⟨w.heap.size,1,none⟩=some (.int .i64 x.aK)∧w'.cell? ⟨w.heap.size,2,none⟩=some (.int .i64 x.aq)∧w'.cell? ⟨w.heap.size,3,none⟩=some (.int .i64 x.bucket)∧w'.cell? ⟨w.heap.size,4,none⟩=some (.bool x.gone)) ((refine HX.out _ ?_;first|exact nT|exact nT.drew|exact (nT.alloc nT.size _).drew|exact N6|exact N7))
   (first|(refine vE eI rfl (.tmp 20) (.tmp 22) rfl w3.heap.size a2 q q ((l2.take q).flatMap aj.cells) rfl (Can.drew (Can.full (Row.alloc (hr3.take q) _) (by rw[dK.length,List.length_take];congr 1;omega) (bD o_))) (some ⟨w3.heap.size,0,none⟩) 1 1 x.cells rfl rfl (Row.drew (Row.new _ _ _ _)) (by intro u hu;simp at hu;rcases hu with rfl|rfl| rfl|rfl| rfl<;>rfl) o_ (by simp) ?_;intro a4 c4 w4 qo _ hb4 eG;have Dw:=h_ eG;clear eG;have N6:=((nT.alloc nT.size (.cells (gW x.id x.aK x.aq x.bucket x.gone) 75)).drew).trans (hb4.mono nT.size))|(go_must (refine vE eI rfl (.tmp 23) (.tmp 26) rfl w3.heap.size a4 (q+1) c4 _ rfl qo _ (l2.length-q) _ ((l2.drop q).flatMap aj.cells) rfl (by rw[dK.length,List.length_drop]) (dK.Tv (hr3.below ((b_.alloc n_ (.cells (gW x.id x.aK x.aq x.bucket x.gone) 75)).drew.trans hb4)) Ov) (qc _) o_ (by have:=hb4.size;simp at this;omega) ?_;intro a5 c5 w5 zU _ cv ij;have JG:=h_ ij;clear ij;have N7:=N6.trans (cv.mono nT.size))))
  clear k0 k1 k3;generalize(if c2=q then a2 else Option.map (fun x=>x.add (q*5)) a2)=ad;have HL:Hid (∀m,m=l2.length- q→q+ 1+m= out.length):=by intro m hm;subst hm;rw[HW.out];simp;omega
  go_wp2_with fail;go_returns;have LC:w.heap.size≤ w3.heap.size:=by have:=nT.size;simp at this;omega
  have cE:cg w.heap.size none a5:=by
   by_cases h0:0< l2.length-q
   ·exact cg.own (JG.1 h0) LC
   ·rw[(JG.2 o_).1];exact cg.own (Dw.1 o_) LC
  refine⟨a5,c5,by rw[←HL.out (l2.length-q) rfl];rfl,by rw[←HL.out (l2.length-q) rfl];exact zU.le,zU.none d_,cE,?_,((b_.alloc n_ _).trans (N7.mono (by simp)))⟩;have h5:=zU.row;have e:(l2.take q).flatMap aj.cells++x.cells++ (l2.drop q).flatMap aj.cells=out.flatMap aj.cells:=by
   rw[HW.out,List.flatMap_append,List.flatMap_cons,List.append_assoc]
  rw[e]at h5;exact h5
 ·go_enter Tryz.func116,Tryz.ntmps116;go_wp2_with(first|(go_at_call 117;((with_reducible refine(rN ts _ _ _ _ _ rfl hl hc hnc hr1).mono ?_);rw[HTS.out];rintro e w2 ⟨a2,c2,rfl,Ov,_,_,hr2,hb2⟩;obtain⟨x0,x1,x2,x3,x4⟩:=HX.out _ hb2))|(go_at_call 162;((with_reducible refine(hmid.out _ _ _ Ov hr2 (fun w' hb=>(HX.out _ (hb2.trans (hb.mono hb2.size))).1)).mono ?_);rintro e w3 ⟨rfl,hb3⟩;have nT:=hb2.trans (hb3.mono hb2.size);obtain⟨x0,x1,x2,x3,x4⟩:=HX.out _ nT)));have hr3:dK w3 a2 l2:=hr2.below hb3;have k0:(0:Int)≤(l2.length:Int):=o_;have k1:(l2.length:Int)≤(c2:Int):=o_;have k3:(l2.length:Int)≤(l2.length:Int):=o_;go_region_held3 (fun w'=>w'.cell? ⟨w.heap.size,0,none⟩=some (.int .i64 x.id)∧w'.cell? ⟨w.heap.size,1,none⟩=some (.int .i64 x.aK)∧w'.cell? ⟨w.heap.size,2,none⟩=some (.int .i64 x.aq)∧w'.cell? ⟨w.heap.size,3,none⟩=some (.int .i64 x.bucket)∧w'.cell? ⟨w.heap.size,4,none⟩=some (.bool x.gone)) ((refine HX.out _ ?_;first|exact nT|exact nT.drew|exact (nT.alloc nT.size _).drew|exact N6|exact N7))
   (first|(refine vE eI rfl (.tmp 20) (.tmp 22) rfl w3.heap.size a2 l2.length l2.length ((l2.take l2.length).flatMap aj.cells) rfl (Can.drew (Can.full (Row.alloc (hr3.take l2.length) _) (by rw[dK.length,List.length_take];simp) (bD o_))) (some ⟨w3.heap.size,0,none⟩) 1 1 x.cells rfl rfl (Row.drew (Row.new _ _ _ _)) (by intro u hu;simp at hu;rcases hu with rfl|rfl| rfl|rfl| rfl<;>rfl) o_ (by simp) ?_;intro a4 c4 w4 qo _ hb4 eG;have Dw:=h_ eG;clear eG;have N6:=((nT.alloc nT.size (.cells (gW x.id x.aK x.aq x.bucket x.gone) 75)).drew).trans (hb4.mono nT.size))|(go_must (refine vE eI rfl (.tmp 23) (.tmp 26) rfl w3.heap.size a4 (l2.length+1) c4 _ rfl qo _ 0 _ ((l2.drop l2.length).flatMap aj.cells) rfl (by rw[List.drop_length];first|done| rfl) (dK.Tv (hr3.below ((b_.alloc n_ (.cells (gW x.id x.aK x.aq x.bucket x.gone) 75)).drew.trans hb4)) Ov) (qc _) o_ (by have:=hb4.size;simp at this;omega) ?_;intro a5 c5 w5 zU _ cv ij;have JG:=h_ ij;clear ij;have N7:=N6.trans (cv.mono nT.size))))
  clear k0 k1 k3;generalize(if c2=l2.length then a2 else Option.map (fun x=>x.add (l2.length*5)) a2)=ad;have HL:Hid (∀m,m=l2.length- l2.length→l2.length+ 1+m= out.length):=by intro m hm;subst hm;rw[HW.out];simp
  go_wp2_with fail;go_returns;have LC:w.heap.size≤ w3.heap.size:=by have:=nT.size;simp at this;omega
  have cE:cg w.heap.size none a5:=by
   rw[(JG.2 (by simp)).1];exact cg.own (Dw.1 o_) LC
  refine⟨a5,c5,by rw[←HL.out 0 (by simp)];rfl,by rw[←HL.out 0 (by simp)];exact zU.le,zU.none d_,cE,?_,((b_.alloc n_ _).trans (N7.mono (by simp)))⟩;have h5:=zU.row;have e:(l2.take l2.length).flatMap aj.cells++x.cells++ (l2.drop l2.length).flatMap aj.cells=out.flatMap aj.cells:=by
   rw[HW.out,List.flatMap_append,List.flatMap_cons,List.append_assoc]
  rw[e]at h5;exact h5
def CI(w:World)(src:Option Addr)(r:List aj×bS)(e:Ending)(w':World):Prop:=
 ∃a c,e= .returned (.tuple #[.slice a r.1.length c,r.2.agg])∧r.1.length≤ c∧(a=none→ c=0)∧cg w.heap.size src a∧dK w' a r.1∧Below w.heap.size w w'
def SS(w:World)(r:aj× Bool)(e:Ending)(w':World):Prop:= e= .returned (.tuple #[r.1.agg,.bool r.2])∧Below w.heap.size w w'
def Un(w:World)(r:bS)(e:Ending)(w':World):Prop:= e= .returned r.agg∧Below w.heap.size w w'
theorem nb{B:Nat}{w w':World}(h:Below B w w'){g:Nat}(hg:B≤ g)(v0 v1 v2 v3 v4:Value):
 Below B w (((((w'.setCell ⟨g,0,none⟩ v0).setCell ⟨g,1,none⟩ v1).setCell ⟨g,2,none⟩ v2).setCell ⟨g,3,none⟩ v3).setCell ⟨g,4,none⟩ v4):=
 ((((h.setCell hg _).setCell hg _).setCell hg _).setCell hg _).setCell hg _
theorem Row.nb{w:World}{a:Option Addr}{xs:List Value}(h:Row w a xs){g:Nat}(hg:∀b o s,a=some ⟨b,o,s⟩→b≠ g)(v0 v1 v2 v3 v4:Value):
 Row (((((w.setCell ⟨g,0,none⟩ v0).setCell ⟨g,1,none⟩ v1).setCell ⟨g,2,none⟩ v2).setCell ⟨g,3,none⟩ v3).setCell ⟨g,4,none⟩ v4) a xs:=
 ((((h.pc hg _).pc hg _).pc hg _).pc hg _).pc hg _
theorem cg.ne{B g:Nat}{a:Option Addr}(h:cg B none a)(hg:g< B):∀b o s,a=some ⟨b,o,s⟩→b≠ g:=fun b o s ha=>by
 rcases h b o s ha with h1|⟨_,_,h1⟩
 ·omega
 ·cases h1
theorem fu(ts:List aj)(a:Option Addr)(n c:Nat)(id:Int)(w:World)(hn:ts.length= n)(hl:ts.length≤ maxLen)(hr:dK w a ts):
 Calls Tryz.prog 77 (Bp a n c id) w (SS w (bf ts id)):=by
 subst hn;have hl2:=cX hl;cases hf:ts.findIdx? (fun x=>x.id== id)with
 |none=>
  have HP:Hid (idx (fun x=>x.id== id) ts= -1):=by show idx _ _=_;unfold idx;rw[hf]
  have HW:Hid (bf ts id=(iV,false)):=by show bf _ _=_;unfold bf;rw[hf]
  clear hf;go_enter Tryz.func77,Tryz.ntmps77;go_wp2_with(go_at_call 138;((with_reducible refine(o6 ts _ _ _ _ _ rfl hl (Row.alloc hr _)).mono ?_);rw[HP.out];rintro e w2 ⟨rfl,hb⟩;have hcl:=aW hb;have hfz:=aY hb));(try simp only[Exit.inBlock,Exit.then]);refine bodyPost_ret (v:= .tuple #[iV.agg,.bool false]) (by simp[results,Tryz.results77,go_sem,hcl,iV]) rfl ?_;exact⟨by rw[HW.out],((b_.alloc n_ _).trans (hb.mono (by simp))).setCell n_ _|>.setCell n_ _|>.setCell n_ _|>.setCell n_ _|>.setCell n_ _⟩
 |some k=>
  have hk:k< ts.length:=(List.findIdx?_eq_some_iff_getElem.1 hf).1;have HP:Hid (idx (fun x=>x.id== id) ts=(k:Int)):=by show idx _ _=_;unfold idx;rw[hf]
  have HW:Hid (bf ts id=if aZ 0 ts then(ts[k]?.getD iV,true)else(iV,false)):=by show bf _ _=_;unfold bf;rw[hf]
  clear hf;obtain⟨b,o,rfl,hcs⟩:=hr.at hk;have ez:=h_ hcs;clear hcs;cases ht:aZ 0 ts with
  |false=>
   have HT:=h_ ht;clear ht;go_enter Tryz.func77,Tryz.ntmps77;go_wp2_with(first|(go_at_call 138;((with_reducible refine(o6 ts _ _ _ _ _ rfl hl (Row.alloc hr _)).mono ?_);rw[HP.out];rintro e w2 ⟨rfl,hb⟩))|(go_at_call 76;((with_reducible refine(dJ ts _ _ _ _ rfl hl ((Row.alloc hr _).below hb)).mono ?_);rw[HT.out];rintro e w3 ⟨rfl,hb3⟩;have hb4:=hb.trans (hb3.mono hb.size);have hcl:=aW hb4;have hfz:=aY hb4)));(try simp only[Exit.inBlock,Exit.then]);refine bodyPost_ret (v:= .tuple #[iV.agg,.bool false]) (by simp[results,Tryz.results77,go_sem,hcl,iV]) rfl ?_;exact⟨by rw[HW.out,HT.out];rfl,((b_.alloc n_ _).trans (hb4.mono (by simp))).setCell n_ _|>.setCell n_ _|>.setCell n_ _|>.setCell n_ _|>.setCell n_ _⟩
  |true=>
   have HT:=h_ ht;clear ht;have hx:ts[k]? =some ts[k]:=List.getElem?_eq_getElem hk;have HX:=h_ hx;clear hx;go_enter Tryz.func77,Tryz.ntmps77;go_wp2_with(first|(go_at_call 138;((with_reducible refine(o6 ts _ _ _ _ _ rfl hl (Row.alloc hr _)).mono ?_);rw[HP.out];rintro e w2 ⟨rfl,hb⟩))|(go_at_call 76;((with_reducible refine(dJ ts _ _ _ _ rfl hl ((Row.alloc hr _).below hb)).mono ?_);rw[HT.out];rintro e w3 ⟨rfl,hb3⟩;have hb4:=hb.trans (hb3.mono hb.size);have hcl:=aW hb4;have hfz:=aY hb4;have cv:=((Below.refl w.heap.size w).alloc n_ _).trans (hb4.mono (by simp));obtain⟨h0,h1,h2,h3,h4⟩:=ez.out _ cv)));(try simp only[Exit.inBlock,Exit.then]);refine bodyPost_ret (v:= .tuple #[ts[k].agg,.bool true]) (by simp[results,Tryz.results77,go_sem,hcl]) rfl ?_;exact⟨by rw[HW.out,HT.out,HX.out];rfl,cv.setCell n_ _|>.setCell n_ _|>.setCell n_ _|>.setCell n_ _|>.setCell n_ _⟩
def Wx(n:Int):Bool:= decide (1≤n∧ n≤16)
theorem o8(n:Int)(w:World):Calls Tryz.prog 95 #[.int .i64 n] w fun e w'=>e= .returned (.bool (Wx n))∧w= w':=by
 go_each [1≤n,n≤16]=>(
  go_enter Tryz.func95,Tryz.ntmps95;go_wp2;go_returns;refine⟨bZ ?_,rfl⟩;unfold Wx
  first|(refine(decide_eq_true ?_).symm;omega)|(refine(decide_eq_false ?_).symm;omega)|(rw[Bool.eq_iff_iff];simp only[decide_eq_true_iff,Bool.and_eq_true];omega))
theorem Eu(n:Int)(w:World)(b:Bool)(hb:Wx n=b):Calls Tryz.prog 95 #[.int .i64 n] w fun e w'=>e= .returned (.bool b)∧w'= w:=
 (o8 n w).mono fun _ _ h=>⟨by rw[h.1,hb],h.2.symm⟩
theorem AQ(r bu:Int)(w:World)(b:Bool)(hb:mg r bu=b):Calls Tryz.prog 96 (Kf r bu) w fun e w'=>e= .returned (.bool b)∧w'= w:=
 (pY r bu w).mono fun _ _ h=>⟨by rw[h.1,hb],h.2.symm⟩
theorem Tw {P:Prop}(h:P:=by
 repeat(go_big_quiet_step (first|(go_at_call 95;exact Calls.quiet_of_same (Eu _ _ _ yG.out))|(go_at_call 96;exact Calls.quiet_of_same (AQ _ _ _ _ HM.out))))
 refine wpQuiet_nil ?_;intro _ hw';obtain⟨nq,hw2⟩:=hw';subst hw2;go_wp2;go_returns
 exact⟨bZ (Bb hlt nP.out).symm,below_drewN (hb.alloc hb.size _) _⟩):P:=h
theorem tq3 {P:Prop}(h:P:=by
 by_cases rY:¬ts[k].aK=0
 ·have nP:Hid (fR (fL (ts.take k)) ts[k]=false):=uh FM (fun h=>rY (by first|exact h.1|exact h.2.1|exact h.2.2));have Yp:(ts[k].aK !=0)=true:= by simpa using rY
  clear rY;exact Tw
 have ZU:(ts[k].aK !=0)=false:= by simpa using rY
 have QJ:=h_ (Classical.not_not.1 rY);clear rY;by_cases oV:¬ts[k].aq=0
 ·have nP:Hid (fR (fL (ts.take k)) ts[k]=false):=uh FM (fun h=>oV (by first|exact h.1|exact h.2.1|exact h.2.2));have Wt:(ts[k].aq !=0)=true:= by simpa using oV
  clear oV;exact Tw
 have Ye:(ts[k].aq !=0)=false:= by simpa using oV
 have Nq:=h_ (Classical.not_not.1 oV);clear oV;by_cases mI:¬ts[k].bucket=0
 ·have nP:Hid (fR (fL (ts.take k)) ts[k]=false):=uh FM (fun h=>mI (by first|exact h.1|exact h.2.1|exact h.2.2));have U3:(ts[k].bucket !=0)=true:= by simpa using mI
  clear mI;exact Tw
 have Wp:(ts[k].bucket !=0)=false:= by simpa using mI
 have KD:=h_ (Classical.not_not.1 mI);clear mI;have nP:Hid (fR (fL (ts.take k)) ts[k]=true):=GR (by have:=TP.out;have:=HA.out;omega) HM.out o_ (.inr ⟨QJ.out,Nq.out,KD.out⟩)
 repeat(go_big_quiet_step (first|(go_at_call 95;exact Calls.quiet_of_same (Eu _ _ _ yG.out))|(go_at_call 96;exact Calls.quiet_of_same (AQ _ _ _ _ HM.out))))
 refine wpQuiet_nil ?_;intro _ hw';obtain⟨nq,hw2⟩:=hw';subst hw2;go_wp2;go_roundw
 case rel=>exact ⟨k+1,by omega,by go_num,by rw[nI hlt,fT.out,nP.out];rfl,below_drewN (hb.alloc hb.size _) _⟩
 case measure=>simp [intOf];omega):P:=h
theorem tq4 {P:Prop}(h:P:=by
 have nP:Hid (fR (fL (ts.take k)) ts[k]=true):=GR (by have:=TP.out;have:=HA.out;omega) HM.out o_ (.inl FM)
 repeat(go_big_quiet_step (first|(go_at_call 95;exact Calls.quiet_of_same (Eu _ _ _ yG.out))|(go_at_call 96;exact Calls.quiet_of_same (AQ _ _ _ _ HM.out))))
 refine wpQuiet_nil ?_;intro _ hw';obtain⟨nq,hw2⟩:=hw';subst hw2;go_wp2;go_roundw
 case rel=>exact ⟨k+1,by omega,by go_num,by rw[nI hlt,fT.out,nP.out];rfl,below_drewN (hb.alloc hb.size _) _⟩
 case measure=>simp [intOf];omega):P:=h
theorem tq5 {P:Prop}(h:P:=by
 have nP:Hid (fR (fL (ts.take k)) ts[k]=false):=Jw o_
 exact Tw):P:=h
theorem cI(ts:List aj)(a:Option Addr)(n c:Nat)(w:World)(hn:ts.length= n)(hl:ts.length≤ maxLen)(hr:dK w a ts):
 Calls Tryz.prog 53 #[.slice a n c] w fun e w'=>e= .returned (.bool (aZ 0 ts))∧Below w.heap.size w w':=by
 subst hn;have hl2:=cX hl;go_enter Tryz.func53,Tryz.ntmps53;go_wp2;go_loopw [3] (fun i wr=>∃k: Nat,k≤ts.length∧ i= .int .i64 k∧aZ 0 (ts.take k)=true∧ Below w.heap.size w wr) (fun i _=>ts.length- (intOf i).toNat)
 case atStart=>exact ⟨0,by omega,rfl,rfl,Below.refl _ _⟩
 case round=>
  obtain⟨k,hk,rfl,hok,hb⟩:=hrel;have fT:=h_ hok;clear hok;by_cases hlt:k< ts.length
  ·obtain⟨b,o,rfl,hcs⟩:=hr.at hlt;obtain⟨h0,h1,h2,h3,h4⟩:=hcs _ hb;have hbl:b< wr.heap.size:=World.block_lt_of_cell? _ _ h0;have Oo:=BV fT.out;have MW:=h_ Oo;clear hcs Oo;go_wp2;refine wp_region_quiet_lit k_ k_ ?_;cases hid:Wx ts[k].id with
   |false=>
    have yG:=h_ hid;have nP:Hid (fR (fL (ts.take k)) ts[k]=false):=A9 (fun h=>by unfold Wx at hid;have:=of_decide_eq_false hid;have:=MW.out;omega);have HM:Hid (mg ts[k].aK ts[k].aq=mg ts[k].aK ts[k].aq):=rfl;clear hid;exact Tw
   |true=>
    have yG:=h_ hid;have D2:=of_decide_eq_true hid;have TP:=h_ D2;clear hid D2;by_cases FN:k= 0
    ·have HA:Hid (fL (ts.take k)<ts[k].id):=by
      show fL (ts.take k)<_
      have h5:=TP.out;have h6:fL (ts.take k)=0:= by rw[FN];rfl
      rw[h6];omega
     have kz:decide ((0:Int)<(k:Int))=false:= by simp;omega
     have kz2:decide (0<k)=false:= by simp;omega
     clear FN;cases hm:mg ts[k].aK ts[k].aq with
     |false=>
      have HM:=h_ hm;have nP:Hid (fR (fL (ts.take k)) ts[k]=false):=Ba hm;clear hm;exact Tw
     |true=>
      have HM:=h_ hm;clear hm;by_cases hb0:ts[k].bucket<0
      ·exact tq5
      by_cases hb1:1000000000< ts[k].bucket
      ·exact tq5
      cases FM:ts[k].gone with
      |false=>
       exact tq4
      |true=>
       exact tq3
    ·have Tf:fL (ts.take k)=ts[k-1].id:=by
      have:=xJ (l:=ts) (k:=k- 1) o_
      rwa [show k-1+ 1=k from by omega]at this
     have EX:=h_ Tf;clear Tf;have kp:(0:Int)<(k:Int):=o_;have kp2:0< k:=o_;obtain⟨b',o',xB,hcs⟩:=hr.at (k:=k- 1) o_;simp only[Option.some.injEq,Addr.mk.injEq,and_true]at xB;obtain⟨rfl,rfl⟩:=xB;obtain⟨p0,_,_,_,_⟩:=hcs _ hb;have W1:IntKind.i64.wrap ((k:Int)-1)=(k:Int)-1:= IntWalk.i64_in _ ⟨by omega,by omega⟩;have W2:(0:Int)≤(k:Int)-1:= o_;have W3:((k:Int)-1).toNat=k- 1:=o_;have W4:(k:Int)-1< (ts.length:Int):=o_;clear hcs FN;by_cases hge:ts[k].id≤ts[k-1].id
     ·have nP:Hid (fR (fL (ts.take k)) ts[k]=false):=A9 (fun h=>by rw[EX.out]at h;omega);have HM:Hid (mg ts[k].aK ts[k].aq=mg ts[k].aK ts[k].aq):=rfl;exact Tw
     have HA:Hid (fL (ts.take k)<ts[k].id):=by show _<_;rw[EX.out];omega
     cases hm:mg ts[k].aK ts[k].aq with
     |false=>
      have HM:=h_ hm;have nP:Hid (fR (fL (ts.take k)) ts[k]=false):=Ba hm;clear hm;exact Tw
     |true=>
      have HM:=h_ hm;clear hm;by_cases hb0:ts[k].bucket<0
      ·exact tq5
      by_cases hb1:1000000000< ts[k].bucket
      ·exact tq5
      cases FM:ts[k].gone with
      |false=>
       exact tq4
      |true=>
       exact tq3
  ·go_wp2;go_returns;exact⟨bZ (by have:=fT.out;rw[List.take_of_length_le o_]at this;exact this.symm),hb⟩
theorem Lj{ts:List aj}{id:Int}(h:aZ 0 ts=false):bf ts id=(iV,false):=by
 unfold bf;split
 ·rw[h];rfl
 ·rfl
theorem Ix{ts:List aj}{id:Int}(h:∀j (hj:j< ts.length),(ts[j].id==id)=false):bf ts id=(iV,false):=by
 have:ts.findIdx? (fun x=>x.id== id)=none:= by
  rw[List.findIdx?_eq_none_iff];intro x hx;obtain⟨j,hj,rfl⟩:=List.mem_iff_getElem.1 hx;exact h j hj
 unfold bf;rw[this]
theorem Iy{ts:List aj}{id:Int}{k:Nat}(hk:k< ts.length)(ht:aZ 0 ts=true)(hno:∀j (hj:j< ts.length),j<k→ (ts[j].id==id)=false)(h:(ts[k].id==id)=true):bf ts id=(ts[k],true):=by
 have:ts.findIdx? (fun x=>x.id== id)=some k:=by
  rw[List.findIdx?_eq_some_iff_getElem];exact⟨hk,h,fun j hj=>by rw[hno j o_ hj];simp⟩
 unfold bf;rw[this];show(if aZ 0 ts=true then _ else _)=_
 rw[ht,if_pos rfl,List.getElem?_eq_getElem hk];rfl
theorem dS(ts:List aj)(a:Option Addr)(n c:Nat)(id:Int)(w:World)(hn:ts.length= n)(hl:ts.length≤ maxLen)(hr:dK w a ts):
 Calls Tryz.prog 92 (Bp a n c id) w (SS w (bf ts id)):=by
 subst hn;have hl2:=cX hl;have hr1:dK (w.alloc (.cells Mt 75)) a ts:=Row.alloc hr _;cases ht:aZ 0 ts with
 |false=>
  have HT:=h_ ht;have HW:Hid (bf ts id=(iV,false)):=Lj ht;clear ht;generalize bf ts id=out at HW ⊢;by_cases h0:ts.length= 0
  ·obtain rfl:ts= []:=List.eq_nil_of_length_eq_zero h0;clear hl hl2 h0;go_enter Tryz.func92,Tryz.ntmps92;go_wp2;refine wp_loop_rounds 1 ?_;rw[rounds_succ];go_wp2;(try simp only[Exit.inBlock,Exit.then]);refine bodyPost_ret (v:= .tuple #[iV.agg,.bool false]) (by simp[results,Tryz.results92,go_sem,iV]) rfl ?_;exact⟨by rw[HW.out],by go_grown⟩
  ·have hp:0< ts.length:=o_;clear h0;go_enter Tryz.func92,Tryz.ntmps92;go_wp2;refine wp_loop_rounds 1 ?_;rw[rounds_succ];go_wp2_with(go_at_call 53;((with_reducible refine(cI ts _ _ _ _ rfl hl hr1).mono ?_);rw[HT.out];rintro e w3 ⟨rfl,hb3⟩;have hcl:=aW hb3;have hfz:=aY hb3));(try simp only[Exit.inBlock,Exit.then]);refine bodyPost_ret (v:= .tuple #[iV.agg,.bool false]) (by simp[results,Tryz.results92,go_sem,hcl,iV]) rfl ?_;have cv:=((Below.refl w.heap.size w).alloc n_ _).trans (hb3.mono (by simp));exact⟨by rw[HW.out],nb cv n_ _ _ _ _ _⟩
 |true=>
  have HT:=h_ ht;clear ht;go_enter Tryz.func92,Tryz.ntmps92;go_wp2
  go_loopw [6] (fun i wr=>∃k: Nat,k≤ts.length∧ i= .int .i64 k∧(∀j (h:j< ts.length),j<k→ (ts[j].id==id)=false)∧
   Below (w.alloc (.cells Mt 75)).heap.size (w.alloc (.cells Mt 75)) wr) (fun i _=>ts.length- (intOf i).toNat)
  case atStart=>exact ⟨0,by omega,rfl,by omega,Below.refl _ _⟩
  case round=>
   obtain⟨k,hk,rfl,hno,hb⟩:=hrel;have sP:=h_ hno;clear hno;by_cases hlt:k< ts.length
   ·obtain⟨b,o,rfl,hcs⟩:=hr1.at hlt;have ez:=h_ hcs;clear hcs;cases hid:ts[k].id==id with
    |true=>
     have yG:=h_ hid;go_wp2_with(go_at_call 53;((with_reducible refine(cI ts _ _ _ _ rfl hl (hr1.below hb)).mono ?_);rw[HT.out];rintro e w3 ⟨rfl,hb3⟩;have hb4:=hb.trans (hb3.mono hb.size);have hcl:=aW hb4;have hfz:=aY hb4;obtain⟨h0,h1,h2,h3,h4⟩:=ez.out _ hb4));(try simp only[Exit.inBlock,Exit.then]);refine bodyPost_ret (v:= .tuple #[ts[k].agg,.bool true]) (by simp[results,Tryz.results92,go_sem,hcl]) rfl ?_;have cv:=((Below.refl w.heap.size w).alloc n_ _).trans (hb4.mono (by simp));exact⟨by rw[Iy hlt HT.out sP.out yG.out],nb cv n_ _ _ _ _ _⟩
    |false=>
     have yG:=h_ hid;go_wp2_with(go_at_call 53;((with_reducible refine(cI ts _ _ _ _ rfl hl (hr1.below hb)).mono ?_);rw[HT.out];rintro e w3 ⟨rfl,hb3⟩;have hb4:=hb.trans (hb3.mono hb.size);have hcl:=aW hb4;have hfz:=aY hb4;obtain⟨h0,h1,h2,h3,h4⟩:=ez.out _ hb4));go_roundw
     case rel=>exact ⟨k+1,by omega,by go_num,fun j h hj=>by rcases Nat.lt_succ_iff_lt_or_eq.1 hj with h1|rfl;exact sP.out j h h1;exact yG.out,hb4⟩
     case measure=>simp [intOf];omega
   ·have hcl:=aW hb;have hfz:=aY hb;have HW:Hid (bf ts id=(iV,false)):=Ix (fun j hj=>sP.out j hj o_);go_wp2;(try simp only[Exit.inBlock,Exit.then]);refine bodyPost_ret (v:= .tuple #[iV.agg,.bool false]) (by simp[results,Tryz.results92,go_sem,hcl,iV]) rfl ?_;have cv:=((Below.refl w.heap.size w).alloc n_ _).trans (hb.mono (by simp));exact⟨by rw[HW.out],nb cv n_ _ _ _ _ _⟩
def cP(id:Int)(ts:List aj):List aj:=ts.filter (fun x=>x.id !=id)
def ir(x:aj)(acc:List aj×Bool)(y:aj):List aj×Bool:=
 if y.id=x.id then acc else if x.id<y.id∧ acc.2=false then(acc.1++[x]++[y],true)else(acc.1++[y],acc.2)
def iq(x:aj)(ts:List aj):List aj×Bool:= ts.foldl (ir x) ([],false)
def kL(x:aj)(ts:List aj):List aj:=if (iq x ts).2 then(iq x ts).1 else(iq x ts).1++[x]
theorem Cx{x:aj}{ts:List aj}{k:Nat}(h:k< ts.length):iq x (ts.take (k+1))=ir x (iq x (ts.take k)) ts[k]:=by
 unfold iq;rw[List.take_succ_eq_append_getElem h,List.foldl_append];rfl
theorem vF(x:aj):∀u∈ x.cells,u.oneCell'=true:= by
 intro u hu;simp at hu;rcases hu with rfl|rfl| rfl|rfl| rfl<;>rfl
theorem lV(ts:List aj)(a:Option Addr)(n c:Nat)(x:aj)(w:World)(hn:ts.length= n)(hl:ts.length≤ 1000)(hr:dK w a ts):
 Calls Tryz.prog 145 #[.slice a n c,x.agg] w (KI w none (kL x ts)):=by
 subst hn;have hx:=Dp (w:=w) (x:=x);have HX:=h_ hx;clear hx;have hr1:dK (w.alloc (.cells (gW x.id x.aK x.aq x.bucket x.gone) 75)) a ts:=Row.alloc hr _;go_enter Tryz.func145,Tryz.ntmps145;go_wp2
 go_loopw [5,6,7] (fun out d i wr=>∃k: Nat,∃a' c' n' l' d',k≤ts.length∧ i= .int .i64 k∧iq x (ts.take k)=(l',d')∧l'.length= n'∧n'≤ 2*k∧ out= .slice a' n' c'∧d= .bool d'∧wr.ownsRow (w.alloc (.cells (gW x.id x.aK x.aq x.bucket x.gone) 75)).heap.size 75 5 (.slice a' n' c') n' (l'.flatMap aj.cells)∧
  Below (w.alloc (.cells (gW x.id x.aK x.aq x.bucket x.gone) 75)).heap.size (w.alloc (.cells (gW x.id x.aK x.aq x.bucket x.gone) 75)) wr) (fun _ _ i _=>ts.length- (intOf i).toNat)
 case atStart=>exact ⟨0,none,0,0,[],false,by omega,rfl,rfl,rfl,by omega,rfl,rfl,World.ownsRow_nil _ _ _ _,Below.refl _ _⟩
 case round=>
  obtain⟨k,a',c',n',l',d',hk,rfl,S6,Rk,iX,rfl,rfl,hown,hb⟩:=hrel;have HFO:=h_ S6;have CA:=h_ Rk;clear S6 Rk;obtain⟨x0,x1,x2,x3,x4⟩:=HX.out _ hb;by_cases hlt:k< ts.length
  ·obtain⟨b,o,rfl,hcs⟩:=hr1.at hlt;have ez:=h_ hcs;obtain⟨h0,h1,h2,h3,h4⟩:=hcs _ hb;clear hcs;have HST:Hid (iq x (ts.take (k+1))=ir x (l',d') ts[k]):=by show _=_;rw[Cx hlt,HFO.out]
   by_cases heq:ts[k].id=x.id
   ·have HF:Hid (iq x (ts.take (k+1))=(l',d')):=by show _=_;rw[HST.out];unfold ir;rw[if_pos heq]
    have he:(ts[k].id==x.id)=true:= by simpa using heq
    clear heq;go_wp2;go_quiet (fail);go_wp2;go_roundw
    case rel=>exact ⟨k+1,a',c',n',l',d',by omega,by go_num,HF.out,CA.out,by omega,rfl,rfl,hown,below_drewN hb _⟩
    case measure=>simp [intOf];omega
   ·have he:(ts[k].id==x.id)=false:= by simpa using heq
    have Mx:=h_ heq;clear heq;by_cases hgt:x.id< ts[k].id
    ·cases d' with
     |true=>
      have HF:Hid (iq x (ts.take (k+1))=(l'++[ts[k]],true)):=by show _=_;rw[HST.out];unfold ir;rw[if_neg Mx.out,if_neg (by simp)]
      go_wp2;go_quiet (fail);have hown1:(wr.drewN nq).ownsRow (w.alloc (.cells (gW x.id x.aK x.aq x.bucket x.gone) 75)).heap.size 75 5 (.slice a' n' c') n' (l'.flatMap aj.cells):=hown;have hb1:=below_drewN hb nq;generalize wr.drewN nq=w1 at hown1 hb1 ⊢;clear x0 x1 x2 x3 x4 h0 h1 h2 h3 h4 hown hb;obtain⟨x0,x1,x2,x3,x4⟩:=HX.out _ hb1;obtain⟨h0,h1,h2,h3,h4⟩:=ez.out _ hb1;go_wp2;go_quiet (fail);have hown2:(w1.drewN nq).ownsRow (w.alloc (.cells (gW x.id x.aK x.aq x.bucket x.gone) 75)).heap.size 75 5 (.slice a' n' c') n' (l'.flatMap aj.cells):=hown1;have hb2:=below_drewN hb1 nq;generalize w1.drewN nq=w2 at hown2 hb2 ⊢;clear x0 x1 x2 x3 x4 h0 h1 h2 h3 h4 hown1 hb1;obtain⟨x0,x1,x2,x3,x4⟩:=HX.out _ hb2;obtain⟨h0,h1,h2,h3,h4⟩:=ez.out _ hb2;go_wp2_with(at_builtin;(refine eX eI rfl (.tmp 38) (.tmp 43) rfl (w.alloc (.cells (gW x.id x.aK x.aq x.bucket x.gone) 75)).heap.size _ n' _ rfl (hown2.alloc _) (some ⟨w2.heap.size,0,none⟩) 1 1 ts[k].cells rfl rfl (Row.new _ _ _ _) (vF ts[k]) o_ (Nat.le_trans hb2.size (by simp)) ?_;intro a3 c3 w3 kV hg3;have hb3:=Below.app (hb2.alloc hb2.size _) (hown2.alloc _) hg3 (Nat.le_trans hb2.size (by simp)));clear hg3);go_roundw
      case rel=>exact ⟨k+1,a3,c3,n'+1,l'++[ts[k]],true,by omega,by go_num,HF.out,by rw[List.length_append,CA.out];rfl,by omega,rfl,rfl,by rw[List.flatMap_append];simpa using kV,hb3⟩
      case measure=>simp [intOf];omega
     |false=>
      have HF:Hid (iq x (ts.take (k+1))=(l'++[x]++[ts[k]],true)):=by show _=_;rw[HST.out];unfold ir;rw[if_neg Mx.out,if_pos ⟨hgt,rfl⟩]
      go_wp2;go_quiet (fail);have hown1:(wr.drewN nq).ownsRow (w.alloc (.cells (gW x.id x.aK x.aq x.bucket x.gone) 75)).heap.size 75 5 (.slice a' n' c') n' (l'.flatMap aj.cells):=hown;have hb1:=below_drewN hb nq;generalize wr.drewN nq=w1 at hown1 hb1 ⊢;clear x0 x1 x2 x3 x4 h0 h1 h2 h3 h4 hown hb;obtain⟨x0,x1,x2,x3,x4⟩:=HX.out _ hb1;obtain⟨h0,h1,h2,h3,h4⟩:=ez.out _ hb1;go_wp2;go_quiet (fail);have hown2:(w1.drewN nq).ownsRow (w.alloc (.cells (gW x.id x.aK x.aq x.bucket x.gone) 75)).heap.size 75 5 (.slice a' n' c') n' (l'.flatMap aj.cells):=hown1;have hb2:=below_drewN hb1 nq;generalize w1.drewN nq=w2 at hown2 hb2 ⊢;clear x0 x1 x2 x3 x4 h0 h1 h2 h3 h4 hown1 hb1;obtain⟨x0,x1,x2,x3,x4⟩:=HX.out _ hb2;obtain⟨h0,h1,h2,h3,h4⟩:=ez.out _ hb2;go_wp2_with(first|(at_builtin;(refine eX eI rfl (.tmp 34) (.tmp 36) rfl (w.alloc (.cells (gW x.id x.aK x.aq x.bucket x.gone) 75)).heap.size _ n' _ rfl (hown2.alloc _) (some ⟨w2.heap.size,0,none⟩) 1 1 x.cells rfl rfl (Row.new _ _ _ _) (vF x) o_ (Nat.le_trans hb2.size (by simp)) ?_;intro a3 c3 w3 kV hg3;have hb3:=Below.app (hb2.alloc hb2.size _) (hown2.alloc _) hg3 (Nat.le_trans hb2.size (by simp)));clear hg3;obtain⟨y0,y1,y2,y3,y4⟩:=ez.out _ hb3)|(at_builtin;(refine eX eI rfl (.tmp 38) (.tmp 43) rfl (w.alloc (.cells (gW x.id x.aK x.aq x.bucket x.gone) 75)).heap.size _ (n'+1) _ rfl (kV.alloc _) (some ⟨w3.heap.size,0,none⟩) 1 1 ts[k].cells rfl rfl (Row.new _ _ _ _) (vF ts[k]) o_ (Nat.le_trans hb3.size (by simp)) ?_;intro a4 c4 w4 eG hg4;have hb4:=Below.app (hb3.alloc hb3.size _) (kV.alloc _) hg4 (Nat.le_trans hb3.size (by simp)));clear hg4));go_roundw
      case rel=>exact ⟨k+1,a4,c4,n'+1+ 1,l'++[x]++[ts[k]],true,by omega,by go_num,HF.out,by rw[List.length_append,List.length_append,CA.out];rfl,by omega,rfl,rfl,by rw[List.flatMap_append,List.flatMap_append];simpa using eG,hb4⟩
      case measure=>simp [intOf];omega
    ·have HF:Hid (iq x (ts.take (k+1))=(l'++[ts[k]],d')):=by show _=_;rw[HST.out];unfold ir;rw[if_neg Mx.out,if_neg (fun h=>hgt h.1)]
     have hd:decide (x.id<ts[k].id)=false:= by simpa using hgt
     go_wp2;go_quiet (fail);have hown1:(wr.drewN nq).ownsRow (w.alloc (.cells (gW x.id x.aK x.aq x.bucket x.gone) 75)).heap.size 75 5 (.slice a' n' c') n' (l'.flatMap aj.cells):=hown;have hb1:=below_drewN hb nq;generalize wr.drewN nq=w1 at hown1 hb1 ⊢;clear x0 x1 x2 x3 x4 h0 h1 h2 h3 h4 hown hb;obtain⟨x0,x1,x2,x3,x4⟩:=HX.out _ hb1;obtain⟨h0,h1,h2,h3,h4⟩:=ez.out _ hb1;go_wp2;go_quiet (fail);have hown2:(w1.drewN nq).ownsRow (w.alloc (.cells (gW x.id x.aK x.aq x.bucket x.gone) 75)).heap.size 75 5 (.slice a' n' c') n' (l'.flatMap aj.cells):=hown1;have hb2:=below_drewN hb1 nq;generalize w1.drewN nq=w2 at hown2 hb2 ⊢;clear x0 x1 x2 x3 x4 h0 h1 h2 h3 h4 hown1 hb1;obtain⟨x0,x1,x2,x3,x4⟩:=HX.out _ hb2;obtain⟨h0,h1,h2,h3,h4⟩:=ez.out _ hb2;go_wp2_with(at_builtin;(refine eX eI rfl (.tmp 38) (.tmp 43) rfl (w.alloc (.cells (gW x.id x.aK x.aq x.bucket x.gone) 75)).heap.size _ n' _ rfl (hown2.alloc _) (some ⟨w2.heap.size,0,none⟩) 1 1 ts[k].cells rfl rfl (Row.new _ _ _ _) (vF ts[k]) o_ (Nat.le_trans hb2.size (by simp)) ?_;intro a3 c3 w3 kV hg3;have hb3:=Below.app (hb2.alloc hb2.size _) (hown2.alloc _) hg3 (Nat.le_trans hb2.size (by simp)));clear hg3);go_roundw
     case rel=>exact ⟨k+1,a3,c3,n'+1,l'++[ts[k]],d',by omega,by go_num,HF.out,by rw[List.length_append,CA.out];rfl,by omega,rfl,rfl,by rw[List.flatMap_append];simpa using kV,hb3⟩
     case measure=>simp [intOf];omega
  ·have HA:Hid (iq x ts=(l',d')):=by show _=_;rw[←HFO.out,List.take_of_length_le o_]
   cases d' with
   |true=>
    have HR:Hid (kL x ts=l'):=by show _=_;unfold kL;rw[HA.out];rfl
    go_wp2;go_returns;obtain⟨_,_,hv,hle,_,hnone⟩:=eN hown;simp only[Value.slice.injEq]at hv;obtain⟨rfl,_,rfl⟩:=hv;exact⟨a',c',by rw[HR.out,CA.out];rfl,by rw[HR.out,CA.out];exact hle,hnone,cg.own hown (by simp),by rw[HR.out];exact jO hown,(b_.alloc n_ _).trans (hb.mono (by simp))⟩
   |false=>
    have HR:Hid (kL x ts=l'++ [x]):=by show _=_;unfold kL;rw[HA.out];rfl
    go_wp2_with(at_builtin;(refine eX eI rfl (.tmp 47) (.tmp 49) rfl (w.alloc (.cells (gW x.id x.aK x.aq x.bucket x.gone) 75)).heap.size _ n' _ rfl (hown.alloc _) (some ⟨wr.heap.size,0,none⟩) 1 1 x.cells rfl rfl (Row.new _ _ _ _) (vF x) o_ (Nat.le_trans hb.size (by simp)) ?_;intro a5 c5 w5 ij S7;have cv:=Below.app (hb.alloc hb.size _) (hown.alloc _) S7 (Nat.le_trans hb.size (by simp)));clear S7);go_returns;obtain⟨_,_,hv,hle,_,hnone⟩:=eN ij;simp only[Value.slice.injEq]at hv;obtain⟨rfl,_,rfl⟩:=hv;exact⟨a5,c5,by rw[HR.out,List.length_append,CA.out];rfl,by rw[HR.out,List.length_append,CA.out];exact hle,hnone,cg.own ij (by simp),by rw[HR.out];have:=jO ij;unfold dK;rw[List.flatMap_append];simpa using this,(b_.alloc n_ _).trans (cv.mono (by simp))⟩
end Go.Proofs.YtfdmhpohfjbpfaaGreat
namespace Go.Proofs.YtfdmhpohfjbpfaaGreat
set_option maxHeartbeats 16000000
theorem Pr{a:Int}{x:aj}(h:fR a x=true):a< x.id:=by
 unfold fR BA at h;simp only[Bool.and_eq_true,decide_eq_true_eq]at h;exact h.1.1.1.1
theorem ui:∀ {ts:List aj} {a:Int},aZ a ts=true→ ∀x∈ ts,a<x.id
 |y:: ts,a,h,x,hx=>by
  rw[aZ,Bool.and_eq_true]at h;have h1:=Pr h.1;rcases List.mem_cons.1 hx with rfl|hx
  ·exact h1
  ·have:=ui h.2 x hx;omega
theorem jK{id:Int}{y:aj}{ts:List aj}(h:y.id= id):cP id (y::ts)=cP id ts:=by
 unfold cP;rw[List.filter_cons,if_neg (by simp[h])]
theorem jL{id:Int}{y:aj}{ts:List aj}(h:y.id≠ id):cP id (y::ts)=y:: cP id ts:=by
 unfold cP;rw[List.filter_cons,if_pos (by simp[h])]
theorem Fu{id:Int}{ts:List aj}(h:∀x∈ ts,x.id≠id):cP id ts=ts:= by
 unfold cP;rw[List.filter_eq_self];intro x hx;simpa using h x hx
theorem xg{id:Int}{y:aj}{ts:List aj}(h:y.id= id):cw id (y::ts)=ts:= by
 unfold cw;rw[List.findIdx?_cons,if_pos (by simpa using h)];rfl
theorem xh{id:Int}{y:aj}{ts:List aj}(h:y.id≠ id):cw id (y::ts)=y:: cw id ts:=by
 unfold cw;rw[List.findIdx?_cons,if_neg (by simpa using h)];cases hf:ts.findIdx? (fun x=>x.id== id)with
 |none=> rfl
 |some k=>rfl
theorem jc:∀ {ts:List aj} {a:Int} (id:Int),aZ a ts=true→ cP id ts=cw id ts
 |[],_,_,_=>rfl
 |y:: ts,a,id,h=>by
  rw[aZ,Bool.and_eq_true]at h;by_cases hy:y.id= id
  ·rw[jK hy,xg hy];exact Fu fun x hx=>by have:=ui h.2 x hx;omega
  ·rw[jL hy,xh hy,jc id h.2]
def oX(x:aj):List aj→List aj
 |[]=>[x]
 |y:: l=>if x.id<y.id then x::y:: l else y::oX x l
theorem Ec(x:aj):∀l: List aj,oX x l=l.take (putAt x l)++x:: l.drop (putAt x l)
 |[]=>rfl
 |y:: l=>by
  have ih:=Ec x l;unfold oX;by_cases h:x.id< y.id
  ·have:putAt x (y::l)=0:= by unfold putAt;rw[List.findIdx?_cons,if_pos (by simpa using h)]
   rw[if_pos h,this];rfl
  ·have:putAt x (y::l)=putAt x l+1:= by
    unfold putAt;rw[List.findIdx?_cons,if_neg (by simpa using h)];cases l.findIdx? (fun y=>decide (x.id<y.id))<;>rfl
   rw[if_neg h,this,ih];rfl
def hR(x:aj):Bool→ List aj→List aj
 |d,[]=>if d then[]else[x]
 |d,y::l=> if y.id=x.id then hR x d l else if x.id<y.id∧ d=false then x::y:: hR x true l else y::hR x d l
theorem yO(x:aj):∀(l pre:List aj) (d:Bool),(if(l.foldl (ir x) (pre,d)).2 then(l.foldl (ir x) (pre,d)).1 else(l.foldl (ir x) (pre,d)).1++[x])=pre++ hR x d l
 |[],pre,d=>by cases d<;>simp [hR]
 |y:: l,pre,d=>by
  rw[List.foldl_cons];unfold ir hR;by_cases h1:y.id= x.id
  ·rw[if_pos h1,if_pos h1];exact yO x l pre d
  ·rw[if_neg h1,if_neg h1];by_cases h2:x.id< y.id∧d= false
   ·rw[if_pos h2,if_pos h2];have:=yO x l (pre++[x]++[y]) true;unfold ir at this;rw[this];simp
   ·rw[if_neg h2,if_neg h2];have:=yO x l (pre++[y]) d;unfold ir at this;rw[this];simp
theorem DX(x:aj):∀l: List aj,hR x true l=cP x.id l
 |[]=>rfl
 |y:: l=>by
  unfold hR;by_cases h1:y.id= x.id
  ·rw[if_pos h1,jK h1];exact DX x l
  ·rw[if_neg h1,if_neg (by simp),jL h1,DX x l]
theorem zS(x:aj):∀l: List aj,hR x false l=oX x (cP x.id l)
 |[]=>rfl
 |y:: l=>by
  unfold hR;by_cases h1:y.id= x.id
  ·rw[if_pos h1,jK h1];exact zS x l
  ·rw[if_neg h1,jL h1];by_cases h2:x.id< y.id
   ·rw[if_pos ⟨h2,rfl⟩,oX,if_pos h2,DX]
   ·rw[if_neg (fun h=>h2 h.1),oX,if_neg h2,zS x l]
theorem tZ{ts:List aj}(x:aj)(h:aZ 0 ts=true):kL x ts=dE x ts:=by
 have h1:=yO x ts [] false;rw[List.nil_append]at h1;have h2:kL x ts=hR x false ts:=h1;rw[h2,zS,Ec,jc x.id h];rfl
def yq(x:aj):Bool:= decide (x.id≤16)&&zD x&&vY x&&uD x
theorem Di{a:Int}{x:aj}:fR a x=true↔ a<x.id∧ yq x=true:= by
 unfold fR BA yq;simp only[Bool.and_eq_true,decide_eq_true_eq];constructor
 ·rintro⟨⟨⟨⟨h1,h2⟩,h3⟩,h4⟩,h5⟩;exact⟨h1,⟨⟨h2,h3⟩,h4⟩,h5⟩
 ·rintro⟨h1,⟨⟨h2,h3⟩,h4⟩,h5⟩;exact⟨⟨⟨⟨h1,h2⟩,h3⟩,h4⟩,h5⟩
theorem cJ:∀ {ts:List aj} {a:Int},aZ a ts=true↔ (∀x∈ ts,a<x.id∧ yq x=true)∧ts.Pairwise (fun x y=>x.id< y.id)
 |[],a=>by simp[aZ]
 |y:: ts,a=>by
  rw[aZ,Bool.and_eq_true,Di,cJ,List.pairwise_cons];constructor
  ·rintro⟨⟨h1,h2⟩,h3,h4⟩;refine⟨fun x hx=> ?_,fun x hx=>(h3 x hx).1,h4⟩;rcases List.mem_cons.1 hx with rfl|hx
   ·exact⟨h1,h2⟩
   ·have:=h3 x hx;exact⟨by omega,this.2⟩
  ·rintro⟨h1,h2,h3⟩;exact⟨h1 y (List.mem_cons_self ..),fun x hx=>⟨h2 x hx,(h1 x (List.mem_cons_of_mem _ hx)).2⟩,h3⟩
def dD(ts:List aj)(id:Int):Option aj:=ts.find? (fun x=>x.id== id)
def yK(ts:List aj)(id:Int):Int:= match dD ts id with|some x=>x.bucket| none=>0
theorem ie{ts:List aj}{id:Int}{x:aj}(h:dD ts id=some x):x∈ ts∧x.id= id:=
 ⟨List.mem_of_find?_eq_some h,by simpa using List.find?_some h⟩
theorem uI:∀(ts:List aj) (id:Int),((ts.findIdx? (fun x=>x.id== id)).bind fun k=>ts[k]?)=dD ts id
 |[],_=>rfl
 |y:: ts,id=>by
  unfold dD;rw[List.findIdx?_cons,List.find?_cons];by_cases h:(y.id==id)=true
  ·rw[if_pos h,h];rfl
  ·rw[if_neg h];rw[Bool.not_eq_true]at h;rw[h];have:=uI ts id;unfold dD at this;simp only;rw[←this];cases ts.findIdx? (fun x=>x.id== id)<;>rfl
theorem fO{ts:List aj}(id:Int)(h:aZ 0 ts=true):bf ts id=match dD ts id with|some x=>(x,true)|none=> (iV,false):=by
 have h1:=uI ts id;unfold bf;cases hf:ts.findIdx? (fun x=>x.id== id)with
 |none=> rw[hf]at h1;rw[←h1];rfl
 |some k=>
  rw[hf]at h1;have hk:k< ts.length:=(List.findIdx?_eq_some_iff_getElem.1 hf).1;simp only[Option.bind_some]at h1;rw[←h1,List.getElem?_eq_getElem hk];simp[h,List.getElem?_eq_getElem hk]
theorem Q8{ts:List aj}(id:Int)(h:aZ 0 ts=true):ma ts id=match dD ts id with|some x=>if x.gone=true then bS.err 161 else⟨0,x.aK,x.aq,0,0⟩|none=> bS.err 161:=by
 unfold ma;rw[if_neg (by rw[h];simp),fO id h];cases dD ts id with
 |none=> rw[if_pos (.inl rfl)]
 |some x=>
  simp only;by_cases hg:x.gone= true
  ·rw[if_pos (.inr hg),if_pos hg]
  ·rw[if_neg (by simp[hg]),if_neg hg]
theorem uK{ts:List aj}(id:Int)(h:aZ 0 ts=true):(bf ts id).1.bucket=yK ts id:=by
 rw[fO id h];unfold yK;cases dD ts id<;>rfl
theorem sS{ts:List aj}(id:Int)(h:aZ 0 ts=true):0≤ yK ts id:=by
 unfold yK;cases hf:dD ts id with
 |none=> exact Int.le_refl _
 |some x=>
  have:=((cJ.1 h).1 x (ie hf).1).2;unfold yq vY at this;simp only[Bool.and_eq_true,decide_eq_true_eq]at this;exact this.1.2.1
theorem PD{ts:List aj}(x:aj)(h:aZ 0 ts=true):dE x ts=oX x (cP x.id ts):=by
 rw[Ec,jc x.id h];rfl
theorem Ao{x y:aj}:∀ {l:List aj},y∈oX x l↔y= x∨y∈ l
 |[]=>by simp[oX]
 |z:: l=>by
  unfold oX
  split
  ·simp
  ·rw[List.mem_cons,Ao,List.mem_cons];constructor
   ·rintro(h|h| h)<;>simp [h]
   ·rintro(h|h| h)<;>simp [h]
theorem xG{x:aj}:∀ {l:List aj},l.Pairwise (fun x y=>x.id< y.id)→(∀y∈ l,y.id≠x.id)→(oX x l).Pairwise (fun x y=>x.id< y.id)
 |[],_,_=>by simp[oX]
 |z:: l,h,hn=>by
  rw[List.pairwise_cons]at h;unfold oX
  split
  ·rename_i hlt
   rw[List.pairwise_cons,List.pairwise_cons];refine⟨fun y hy=> ?_,h⟩;rcases List.mem_cons.1 hy with rfl|hy
   ·exact hlt
   ·have:=h.1 y hy;omega
  ·rename_i hlt
   rw[List.pairwise_cons];refine⟨fun y hy=> ?_,xG h.2 fun y hy=>hn y (List.mem_cons_of_mem _ hy)⟩;rcases Ao.1 hy with rfl|hy
   ·have:=hn z (List.mem_cons_self ..);omega
   ·exact h.1 y hy
theorem rz{x:aj}:∀ {l:List aj},(∀y∈ l,y.id≠x.id)→dD (oX x l) x.id=some x
 |[],_=>by simp[oX,dD]
 |z:: l,hn=>by
  have hz:=hn z (List.mem_cons_self ..);unfold oX
  split
  ·simp[dD]
  ·have:=rz (l:=l) fun y hy=>hn y (List.mem_cons_of_mem _ hy)
   unfold dD at this ⊢;rw[List.find?_cons_of_neg (by simpa using hz)];exact this
theorem qm{x:aj}{id:Int}(h:x.id≠ id):∀l: List aj,dD (oX x l) id=dD l id
 |[]=>by simp[oX,dD,h]
 |z:: l=>by
  have ih:=qm h l;unfold oX
  split
  ·unfold dD;rw[List.find?_cons_of_neg (by simpa using h)]
  ·unfold dD at ih ⊢;rw[List.find?_cons,List.find?_cons,ih]
theorem wG(id:Int)(l:List aj):dD (cP id l) id=none:= by
 unfold dD cP;rw[List.find?_eq_none];intro x hx;simpa using (List.mem_filter.1 hx).2
theorem kD{id other:Int}(h:id≠ other):∀l: List aj,dD (cP id l) other=dD l other
 |[]=>rfl
 |z:: l=>by
  have ih:=kD h l;by_cases hz:z.id= id
  ·rw[jK hz,ih];unfold dD;rw[List.find?_cons_of_neg (by simp;omega)]
  ·rw[jL hz];unfold dD at ih ⊢;rw[List.find?_cons,List.find?_cons,ih]
theorem sZ{l:List aj}(id:Int)(h:aZ 0 l=true):aZ 0 (cP id l)=true:= by
 obtain⟨h1,h2⟩:=cJ.1 h;exact cJ.2 ⟨fun x hx=>h1 x (List.mem_filter.1 hx).1,h2.sublist List.filter_sublist⟩
theorem GU{l:List aj}{x:aj}(h:aZ 0 l=true)(hx:0< x.id)(ho:yq x=true)(hn:∀y∈ l,y.id≠x.id):aZ 0 (oX x l)=true:= by
 obtain⟨h1,h2⟩:=cJ.1 h;refine cJ.2 ⟨fun y hy=> ?_,xG h2 hn⟩;rcases Ao.1 hy with rfl|hy
 ·exact⟨hx,ho⟩
 ·exact h1 y hy
theorem zM(id:Int)(l:List aj):∀y∈ cP id l,y.id≠id:= fun y hy=>by simpa using (List.mem_filter.1 hy).2
theorem ku{ts:List aj}{x:aj}(h:aZ 0 ts=true)(hx:0< x.id)(ho:yq x=true):
 aZ 0 (dE x ts)=true∧ dD (dE x ts) x.id=some x∧∀other,other≠x.id→ dD (dE x ts) other=dD ts other:=by
 rw[PD x h];refine⟨GU (sZ _ h) hx ho (zM _ _),rz (zM _ _),fun other hne=> ?_⟩;rw[qm hne.symm,kD hne.symm]
theorem Be{ts:List aj}(id:Int)(h:aZ 0 ts=true):
 aZ 0 (cw id ts)=true∧ dD (cw id ts) id=none∧ ∀other,other≠id→ dD (cw id ts) other=dD ts other:=by
 rw[←jc id h];exact⟨sZ _ h,wG _ _,fun other hne=>kD hne.symm _⟩
theorem DJ(b aq out:Int)(h:0≤ b):gF b aq out≤b:= by
 have:=(iA aq out).1;unfold gF bL;omega
theorem yA(id:Int)(ts:List aj):(cw id ts).length≤ts.length:= by
 unfold cw
 split
 ·simp;omega
 ·exact Nat.le_refl _
theorem qg(x:aj)(ts:List aj):(dE x ts).length≤ts.length+ 1:=by
 have h:=yA x.id ts;unfold dE;simp;omega
end Go.Proofs.YtfdmhpohfjbpfaaGreat
namespace Go.Proofs.YtfdmhpohfjbpfaaGreat
open Go.ChangeShapes Go.WideShapes Go.ChangeAt Go.RowKit
set_option maxRecDepth 100000
set_option maxHeartbeats 16000000
def mE(ts:List aj)(x:aj):List aj×Int:= if aZ 0 ts=true∧ aZ 0 (dE x ts)=true then(dE x ts,0)else(ts,2)
def SQ(w:World)(src:Option Addr)(r:List aj×Int)(e:Ending)(w':World):Prop:=
 ∃a c,e= .returned (.tuple (Bp a r.1.length c r.2))∧r.1.length≤ c∧(a=none→ c=0)∧cg w.heap.size src a∧dK w' a r.1∧Below w.heap.size w w'
theorem tq6 {P:Prop}(h:P:=by
 go_returns
 exact⟨a,c,by rw[HO.out];rfl,by rw[HO.out];exact hnc,hc,cg.self _ _,by rw[HO.out];exact hr.below aH,aH⟩):P:=h
theorem Ka(ts:List aj)(a:Option Addr)(n c:Nat)(x:aj)(w:World)(hn:ts.length= n)(hl:ts.length≤ 900)(hc:a= none→c= 0)(hnc:n≤ c)(hr:dK w a ts):
 Calls Tryz.prog 127 #[.slice a n c,x.agg] w (SQ w a (mE ts x)):=by
 subst hn;have hlw:=qg x ts;have hmax:ts.length≤ maxLen:=bD o_;have IY:(dE x ts).length≤maxLen:= bD o_;have HS:Hid (mE ts x=if aZ 0 ts=true∧ aZ 0 (dE x ts)=true then(dE x ts,0)else(ts,2)):=rfl;generalize mE ts x=res at HS ⊢;have HW:Hid (dE x ts=dE x ts):=rfl;generalize J3:dE x ts=wl at HS hlw IY HW;have Nl:=h_ J3;clear J3 HW;cases h1:aZ 0 ts with
 |false=>
  have H1:=h_ h1;have HO:Hid (res=(ts,2)):=by rw[HS.out,if_neg (fun h=>by rw[h1]at h;cases h.1)];exact rfl
  clear h1 HS;go_enter Tryz.func127,Tryz.ntmps127;go_wp2_with(first|(go_at_call 116;((with_reducible refine(pj ts _ _ _ x _ rfl o_ hc hnc (hr.below aH)).mono ?_);rw[Nl.out];rintro e w2 ⟨a2,c2,rfl,hc2,iX,pR,hr2,hb2⟩))|(go_at_call 76;((with_reducible refine(dJ ts a _ _ _ rfl hmax (hr.below aH)).mono ?_);rw[H1.out];rintro e w3 ⟨rfl,hb3⟩)));exact tq6
 |true=>
  have H1:=h_ h1;cases h2:aZ 0 wl with
  |false=>
   have H2:=h_ h2;have HO:Hid (res=(ts,2)):=by rw[HS.out,if_neg (fun h=>by rw[h2]at h;cases h.2)];exact rfl
   clear h1 h2 HS;go_enter Tryz.func127,Tryz.ntmps127;go_wp2_with(first|(go_at_call 116;((with_reducible refine(pj ts _ _ _ x _ rfl o_ hc hnc (hr.below aH)).mono ?_);rw[Nl.out];rintro e w2 ⟨a2,c2,rfl,hc2,iX,pR,hr2,hb2⟩))|(go_at_call 76;((with_reducible refine(dJ ts a _ _ _ rfl hmax (hr.below aH)).mono ?_);rw[H1.out];rintro e w3 ⟨rfl,hb3⟩))|(go_at_call 76;((with_reducible refine(dJ wl a2 _ _ _ rfl IY (hr2.below aH)).mono ?_);rw[H2.out];rintro e w4 ⟨rfl,hb4⟩)));exact tq6
  |true=>
   have H2:=h_ h2;have HO:Hid (res=(wl,0)):=by rw[HS.out,if_pos ⟨h1,h2⟩];exact rfl
   clear h1 h2 HS;go_enter Tryz.func127,Tryz.ntmps127;go_wp2_with(first|(go_at_call 116;((with_reducible refine(pj ts _ _ _ x _ rfl o_ hc hnc (hr.below aH)).mono ?_);rw[Nl.out];rintro e w2 ⟨a2,c2,rfl,hc2,iX,pR,hr2,hb2⟩))|(go_at_call 76;((with_reducible refine(dJ ts a _ _ _ rfl hmax (hr.below aH)).mono ?_);rw[H1.out];rintro e w3 ⟨rfl,hb3⟩))|(go_at_call 76;((with_reducible refine(dJ wl a2 _ _ _ rfl IY (hr2.below aH)).mono ?_);rw[H2.out];rintro e w4 ⟨rfl,hb4⟩)));go_returns;exact⟨a2,c2,by rw[HO.out];rfl,by rw[HO.out];exact hc2,iX,(pR.mono (by simp)).trans' _,by rw[HO.out];exact hr2.below aH,aH⟩
theorem AZ(ts:List aj)(a:Option Addr)(n c:Nat)(x:aj)(w:World)(hn:ts.length= n)(hl:ts.length≤ 900)(hc:a= none→c= 0)(hnc:n≤ c)(hr:dK w a ts):
 Calls Tryz.prog 94 #[.slice a n c,x.agg] w (SQ w a (mE ts x)):=by
 subst hn;have hlw:=qg x ts;have hmax:ts.length≤ maxLen:=bD o_;have IY:(dE x ts).length≤maxLen:= bD o_;have HS:Hid (mE ts x=if aZ 0 ts=true∧ aZ 0 (dE x ts)=true then(dE x ts,0)else(ts,2)):=rfl;generalize mE ts x=res at HS ⊢;have My:=h_ (tZ (ts:=ts) x);generalize J3:dE x ts=wl at HS hlw IY My;have Nl:=h_ J3;clear J3;cases h1:aZ 0 ts with
 |false=>
  have H1:=h_ h1;have HO:Hid (res=(ts,2)):=by rw[HS.out,if_neg (fun h=>by rw[h1]at h;cases h.1)];exact rfl
  clear h1 HS;go_enter Tryz.func94,Tryz.ntmps94;go_wp2_with(first|(go_at_call 53;((with_reducible refine(cI ts a _ _ _ rfl hmax (hr.below aH)).mono ?_);rw[H1.out];rintro e w3 ⟨rfl,hb3⟩)));exact tq6
 |true=>
  have H1:=h_ h1;have Xt:=h_ (My h1);cases h2:aZ 0 wl with
  |false=>
   have H2:=h_ h2;have HO:Hid (res=(ts,2)):=by rw[HS.out,if_neg (fun h=>by rw[h2]at h;cases h.2)];exact rfl
   clear h1 h2 HS;go_enter Tryz.func94,Tryz.ntmps94;go_wp2_with(first|(go_at_call 53;((with_reducible refine(cI ts a _ _ _ rfl hmax (hr.below aH)).mono ?_);rw[H1.out];rintro e w3 ⟨rfl,hb3⟩;have hx3:=aW hb3;have hz3:=aY hb3))|(go_at_call 145;((with_reducible refine(lV ts _ _ _ x _ rfl o_ (hr.below aH)).mono ?_);rw[Xt.out];rintro e w2 ⟨a2,c2,rfl,hc2,iX,pR,hr2,hb2⟩))|(go_at_call 53;((with_reducible refine(cI wl a2 _ _ _ rfl IY (hr2.below aH)).mono ?_);rw[H2.out];rintro e w4 ⟨rfl,hb4⟩)));exact tq6
  |true=>
   have H2:=h_ h2;have HO:Hid (res=(wl,0)):=by rw[HS.out,if_pos ⟨h1,h2⟩];exact rfl
   clear h1 h2 HS;go_enter Tryz.func94,Tryz.ntmps94;go_wp2_with(first|(go_at_call 53;((with_reducible refine(cI ts a _ _ _ rfl hmax (hr.below aH)).mono ?_);rw[H1.out];rintro e w3 ⟨rfl,hb3⟩;have hx3:=aW hb3;have hz3:=aY hb3))|(go_at_call 145;((with_reducible refine(lV ts _ _ _ x _ rfl o_ (hr.below aH)).mono ?_);rw[Xt.out];rintro e w2 ⟨a2,c2,rfl,hc2,iX,pR,hr2,hb2⟩))|(go_at_call 53;((with_reducible refine(cI wl a2 _ _ _ rfl IY (hr2.below aH)).mono ?_);rw[H2.out];rintro e w4 ⟨rfl,hb4⟩)));go_returns;exact⟨a2,c2,by rw[HO.out];rfl,by rw[HO.out];exact hc2,iX,(pR.mono XY).trans' _,by rw[HO.out];exact hr2.below aH,aH⟩
def aT:iW Tryz.prog 75 aj:=iW.struct aj.cells 5 40 (fun _=>rfl) d_ d_ (fun x u hu=>by simp at hu;rcases hu with h|h| h|h| h<;>subst h<;>rfl) k_ _ Tryz.underlying75 rfl
end Go.Proofs.YtfdmhpohfjbpfaaGreat
namespace Go.Proofs.YtfdmhpohfjbpfaaGreat
set_option maxHeartbeats 16000000
section
variable {α:Type} {p q:α→ Bool} {xs us:List α} {i j k:Nat}
def iL(p:α→ Bool)(xs:List α):Int:= match xs.findIdx? p with|some k=>(k:Int)|none=> -1
theorem sf(hk:k< xs.length)(hno:∀j (h:j< xs.length),j<k→ p xs[j]=false)(hp:p xs[k]=true):iL p xs=k:= by
 have:xs.findIdx? p=some k:=by
  rw[List.findIdx?_eq_some_iff_getElem];exact⟨hk,hp,fun j hj=>by rw[hno j o_ hj];simp⟩
 unfold iL;rw[this]
theorem rZ(hno:∀j (h:j< xs.length),p xs[j]=false):iL p xs= -1:= by
 have:xs.findIdx? p=none:= by
  rw[List.findIdx?_eq_none_iff];intro x hx;obtain⟨j,hj,rfl⟩:=List.mem_iff_getElem.1 hx;exact hno j hj
 unfold iL;rw[this]
theorem oW(p:α→ Bool)(xs:List α):(iL p xs= -1∧ ∀x∈ xs,p x=false)∨∃k,∃hk: k<xs.length,iL p xs=k∧ p xs[k]=true∧ ∀j (h:j< xs.length),j<k→ p xs[j]=false:= by
 unfold iL;cases h:xs.findIdx? p with
 |none=> exact .inl ⟨rfl,List.findIdx?_eq_none_iff.1 h⟩
 |some k=>
  obtain⟨hk,h1,h2⟩:=List.findIdx?_eq_some_iff_getElem.1 h;exact .inr ⟨k,hk,rfl,h1,fun j hj hlt=>by simpa using h2 j hlt⟩
theorem wK(p:α→ Bool)(xs:List α):(iL p xs= -1∧ xs.find? p=none)∨∃k,∃hk: k<xs.length,iL p xs=k∧ xs.find? p=some xs[k]:=by
 rcases oW p xs with⟨h1,h2⟩|⟨k,hk,h1,h2,h3⟩
 ·exact .inl ⟨h1,List.find?_eq_none.2 fun x hx=>by rw[h2 x hx];simp⟩
 ·exact .inr ⟨k,hk,h1,List.find?_eq_some_iff_getElem.2 ⟨h2,k,hk,rfl,fun j hj=>by rw[h3 j o_ hj];rfl⟩⟩
def qs(cmp:α→ Int):Option α→Bool
 |some x=>cmp x==0
 |none=> false
theorem JU(hj:j< xs.length)(hl:us.length= xs.length)(hij:i< j)(h1:us.take i=(xs.take j).filter q)(h2:us.drop j=xs.drop j)(hq:q xs[j]=true):
 (us.set i xs[j]).take (i+1)=(xs.take (j+1)).filter q∧(us.set i xs[j]).drop (j+1)=xs.drop (j+1):=by
 constructor
 ·rw[List.take_succ_eq_append_getElem (by rw[List.length_set];omega),List.getElem_set_self,List.take_set_of_le n_,h1,List.take_succ_eq_append_getElem hj,List.filter_append,List.filter_cons,if_pos hq];rfl
 ·rw[List.drop_set_of_lt o_];have:=congrArg (List.drop 1) h2;simpa using this
theorem yL(hj:j< xs.length)(h1:us.take i=(xs.take j).filter q)(h2:us.drop j=xs.drop j)(hq:q xs[j]=false):
 us.take i=(xs.take (j+1)).filter q∧us.drop (j+1)=xs.drop (j+1):=by
 constructor
 ·rw[h1,List.take_succ_eq_append_getElem hj,List.filter_append,List.filter_cons,if_neg (by rw[hq];simp)];simp
 ·have:=congrArg (List.drop 1) h2;simpa using this
theorem SX(hj:j< xs.length)(hl:us.length= xs.length)(h2:us.drop j=xs.drop j):us[j]'o_=xs[j]:=by
 have:=congrArg (fun l=>l[0]?) h2;simp only[List.getElem?_drop,Nat.add_zero,List.getElem?_eq_getElem hj,List.getElem?_eq_getElem (show j<us.length by omega),Option.some.injEq]at this;exact this
theorem Fl(hk:k< xs.length)(hp:q xs[k]=false)(hno:∀j (h:j< xs.length),j<k→ q xs[j]=true):xs.take k=(xs.take (k+1)).filter q:=by
 rw[List.take_succ_eq_append_getElem hk,List.filter_append,List.filter_cons,if_neg (by rw[hp];simp),List.filter_nil,List.append_nil]
 symm
 rw[List.filter_eq_self];intro x hx;obtain⟨j,hj,rfl⟩:=List.mem_iff_getElem.1 hx;rw[List.length_take]at hj;rw[List.getElem_take];exact hno j o_ o_
end
end Go.Proofs.YtfdmhpohfjbpfaaGreat
namespace Go.Proofs.YtfdmhpohfjbpfaaGreat
open Go.ChangeShapes Go.WideShapes Go.ChangeAt Go.RowKit
set_option maxRecDepth 100000
set_option maxHeartbeats 16000000
theorem mA(xs:List aj)(a:Option Addr)(n c:Nat)(cM:FuncId)(cap:Array Value)(p:aj→ Bool)(w:World)(hn:xs.length= n)(hl:n≤ maxLen)(hr:bF aT w a xs)(qp:∀(args:Array Value) (w:World),(callFunc cM args).run Tryz.prog w= .ok (.enter cM args) w)(hf:∀x∈ xs,∀w',Below w.heap.size w w'→Calls Tryz.prog cM (#[(aT).val x]++cap) w' fun e w''=>e= .returned (.bool (p x))∧Below w'.heap.size w' w''):
 Calls Tryz.prog 39 #[.slice a n c,.func (.func cM) #[] cap] w fun e w'=>e= .returned (.int .i64 (iL p xs))∧Below w.heap.size w w':=by
 subst hn;have hl2:=cX hl;have HI:=h_ (fun k (hk:k< xs.length)=>sf (p:=p) hk);have HN:=h_ (rZ (p:=p) (xs:=xs));have HF:=h_ hf;generalize iL p xs=res at HI HN ⊢;clear hf;go_enter Tryz.func39,Tryz.ntmps39;go_wp2;go_loopw [8] (fun i wr=>∃k: Nat,k≤xs.length∧ i= .int .i64 k∧(∀j (h:j< xs.length),j<k→ p xs[j]=false)∧Below w.heap.size w wr) (fun i _=>xs.length- (intOf i).toNat)
 case atStart=>exact ⟨0,by omega,rfl,by omega,Below.refl _ _⟩
 case round=>
  obtain⟨k,hk,rfl,hno,hb⟩:=hrel;have sP:=h_ hno;clear hno;by_cases hlt:k< xs.length
  ·obtain⟨b,o,rfl,hcs⟩:=hr.range hlt;have hrange:=h_ (hcs _ hb);have qC:=h_ (HF xs[k] (List.getElem_mem hlt) wr hb);clear hcs;cases hp:p xs[k]with
   |true=>
    go_wp2_with(first|(refine bQ aT rfl _ rfl b (o+k* (aT).size) rfl _ hrange.out ?_)|(refine qC.mono ?_;rw[hp];rintro e w2 ⟨rfl,hb2⟩));go_returns;exact⟨dZ (HI k hlt sP.out hp).symm,hb.trans (hb2.mono hb.size)⟩
   |false=>
    go_wp2_with(first|(refine bQ aT rfl _ rfl b (o+k* (aT).size) rfl _ hrange.out ?_)|(refine qC.mono ?_;rw[hp];rintro e w2 ⟨rfl,hb2⟩));go_roundw
    case rel=>exact ⟨k+1,by omega,by go_num,fun j h hj=>by rcases Nat.lt_succ_iff_lt_or_eq.1 hj with h1|rfl;exact sP.out j h h1;exact hp,hb.trans (hb2.mono hb.size)⟩
    case measure=>simp [intOf];omega
  ·go_wp2;go_returns;exact⟨dZ (HN fun j h=>sP.out j h o_).symm,hb⟩
def KH(B:Nat)(w:World)(a:Option Addr)(c:Nat)(xs:List aj)(e:Ending)(w':World):Prop:=
 e= .returned (.slice a xs.length c)∧bF aT w' a xs∧Below B w w'
theorem BH(xs:List aj)(B g n c:Nat)(cM:FuncId)(cap:Array Value)(p:aj→ Bool)(w:World)(hn:xs.length= n)(hnc:n≤ c)(hl:c≤ maxLen)(hm:dM aT w B g 0 xs)(hB:B≤ w.heap.size)(qp:∀(args:Array Value) (w:World),(callFunc cM args).run Tryz.prog w= .ok (.enter cM args) w)(hf:∀x∈ xs,∀w',Below B w w'→Calls Tryz.prog cM (#[(aT).val x]++cap) w' fun e w''=>e= .returned (.bool (p x))∧Below w'.heap.size w' w''):
 Calls Tryz.prog 149 #[.slice (some ⟨g,0,none⟩) n c,.func (.func cM) #[] cap] w (KH B w (some ⟨g,0,none⟩) c (xs.filter fun x=> !p x)):=by
 subst hn;have hl2:=cX hl;have hlm:xs.length≤ maxLen:=Nat.le_trans hnc hl;have HF:=h_ hf;clear hf;have Kp:=h_ (mA xs (some ⟨g,0,none⟩) xs.length c cM cap p w rfl hlm hm.row qp (fun x hx w' hb=>HF.out x hx w' (hb.mono hB)));have HM:=h_ hm;rcases oW p xs with⟨h1,h2⟩|⟨k,hk,h1,h2,h3⟩
 ·have HI:=h_ h1;have HO:Hid ((xs.filter fun x=> !p x)=xs):=List.filter_eq_self.2 fun x hx=>by rw[h2 x hx];rfl
  clear h1 h2 hm;generalize(xs.filter fun x=> !p x)=res at HO ⊢;go_enter Tryz.func149,Tryz.ntmps149;go_wp2_with(go_at_call 39;((with_reducible refine Kp.out.mono ?_);rw[HI.out];rintro e w2 ⟨rfl,hb⟩));go_returns;obtain rfl:=HO.out;exact⟨rfl,Row.below HM.row hb,hb.mono hB⟩
 ·have HI:=h_ h1;have HS:=h_ (Fl (q:=fun x=> !p x) hk (by simp[h2]) (fun j h hj=>by simp[h3 j h hj]));have Bj:Hid (∀(us:List aj) (i:Nat),i≤us.length→ us.take i=xs.filter (fun x=> !p x)→(xs.filter fun x=> !p x).length=i):=fun us i hi h=>by rw[←h,List.length_take];omega
  have W9:Hid (∀(us:List aj) (i:Nat),us.take i=(xs.take xs.length).filter (fun x=> !p x)→us.take i=xs.filter (fun x=> !p x)):=fun us i h=>by rw[h,List.take_length]
  clear h1 h2 h3 hm;have hz:=HM.lt (by intro h;rw[h]at hk;simp at hk);generalize hres:(xs.filter fun x=> !p x)=res at Bj W9 ⊢;have T4:=h_ hres;clear hres;have hk1:((k:Int)== -1)=false:= by rw[beq_eq_false_iff_ne];omega
  go_enter Tryz.func149,Tryz.ntmps149;go_wp2_with(go_at_call 39;((with_reducible refine Kp.out.mono ?_);rw[HI.out];rintro e w2 ⟨rfl,hb⟩));go_loopw [5,6] (fun si sj wr=>∃i j:Nat,∃us: List aj,si= .int .i64 i∧sj= .int .i64 j∧i< j∧j≤ xs.length∧Hid (us.length=xs.length)∧Hid (us.take i=(xs.take j).filter (fun x=> !p x))∧Hid (us.drop j=xs.drop j)∧Hid (dM aT wr B g 0 us)∧Below B w wr) (fun _ sj _=>xs.length- (intOf sj).toNat)
  case atStart=>exact ⟨k,k+1,xs,rfl,by go_num,by omega,by omega,rfl,HS.out,rfl,HM.below hb hz,hb.mono hB⟩
  case round=>
   obtain⟨i,j,us,rfl,rfl,hij,hj,HL,HT,HD,EI,hbr⟩:=hrel;by_cases hlt:j< xs.length
   ·have UY:j< us.length:=by rw[HL.out];exact hlt
    have hiu:i< us.length:=by rw[HL.out];omega
    have Hg:=EI.range UY;have HA:=h_ (SX hlt HL.out HD.out);have hgr:=EI.lt (by intro h;rw[h]at UY;simp at UY);have hBr:B≤ wr.heap.size:=Nat.le_trans EI.base o_;rw[HA.out,Nat.zero_add]at Hg;have hrange:=h_ Hg;clear Hg;have qC:=fun (w':World) (hb:Below B w w')=>HF.out xs[j] (List.getElem_mem hlt) w' hb
    have G7:=h_ qC;clear qC;cases hp:p xs[j]with
    |true=>
     go_wp2_with(first|(refine bQ aT rfl _ rfl g (j*(aT).size) rfl _ hrange.out ?_)|(refine aI aT rfl _ _ rfl xs[j] rfl rfl rfl ?_;intro w3 hw3 _ hb3 hs3;have Nr:=h_ hw3;clear hw3)|(refine bQ aT rfl _ rfl wr.heap.size 0 rfl _ Nr.out ?_)|(refine(G7 _ (hbr.trans (hb3.mono hBr))).mono ?_;rw[hp];rintro e w4 ⟨rfl,hb4⟩));go_roundw
     case rel=>exact ⟨i,j+1,us,rfl,by go_num,by omega,by omega,HL.out,(yL hlt HT.out HD.out (by simp[hp])).1,(yL hlt HT.out HD.out (by simp[hp])).2,(EI.below hb3 hgr).below hb4 o_,(hbr.trans (hb3.mono hBr)).trans (hb4.mono o_)⟩
     case measure=>simp [intOf];omega
    |false=>
     have HK:=h_ (JU hlt HL.out hij HT.out HD.out (by simp[hp]));go_wp2_with(first|(refine bQ aT rfl _ rfl g (j*(aT).size) rfl _ hrange.out ?_)|(refine aI aT rfl _ _ rfl xs[j] rfl rfl rfl ?_;intro w3 hw3 _ hb3 hs3;have Nr:=h_ hw3;clear hw3)|(refine bQ aT rfl _ rfl wr.heap.size 0 rfl _ Nr.out ?_)|(refine(G7 _ (hbr.trans (hb3.mono hBr))).mono ?_;rw[hp];rintro e w4 ⟨rfl,hb4⟩;have Nr:=h_ (sX Nr.out hb4 o_))|(refine nN aT rfl _ _ rfl (o:=0) ((EI.below hb3 hgr).below hb4 o_) i hiu xs[j] (by rw[Nat.zero_add];rfl) rfl ?_;intro w5 FR cv hs5;have Hm:=h_ FR;have kO:=h_ cv;clear FR cv));go_roundw
     case rel=>exact ⟨i+1,j+1,us.set i xs[j],by go_num,by go_num,by omega,by omega,by show _=_;rw[List.length_set];exact HL.out,HK.1,HK.2,Hm.out,((hbr.trans (hb3.mono hBr)).trans (hb4.mono o_)).trans (kO _ EI.base)⟩
     case measure=>simp [intOf];omega
   ·obtain rfl:j= xs.length:=o_;have HR:=h_ (W9 us i HT.out);have HN:=h_ (Bj us i (by rw[HL.out];omega) HR.out);have hcn:¬c= i:=o_;have hic:i≤ c:=o_;have hin:i≤ xs.length:=o_;go_wp2_with(refine vJ aT Tryz.underlying22 rfl _ rfl (o:=0) EI.out i (by rw[HL.out];omega) (xs.length-i) (c-i) (by rw[HL.out];omega) (by rw[Nat.zero_add];rfl) ?_;intro w5 FR cv hs5;have Hm:=h_ FR;have kO:=h_ cv;clear FR cv);go_returns;have FR:=Hm.out;rw[HR.out]at FR;exact⟨by rw[HN.out];rfl,FR.row,hbr.trans (kO _ EI.base)⟩
theorem wu(a:Option Addr)(c:Nat)(cM:FuncId)(cap:Array Value)(w:World)(qp:∀(args:Array Value) (w:World),(callFunc cM args).run Tryz.prog w= .ok (.enter cM args) w):
 Calls Tryz.prog 149 #[.slice a 0 c,.func (.func cM) #[] cap] w fun e w'=>e= .returned (.slice a 0 c)∧Below w.heap.size w w':=by
 have Kp:=h_ (mA [] a 0 c cM cap (fun _=>false) w rfl (Nat.zero_le _) (.inl rfl) qp (fun x hx=>absurd hx (by simp)));go_enter Tryz.func149,Tryz.ntmps149;go_wp2_with(go_at_call 39;((with_reducible refine Kp.out.mono ?_);rintro e w2 ⟨rfl,hb⟩));go_returns;exact⟨rfl,hb⟩
end Go.Proofs.YtfdmhpohfjbpfaaGreat
