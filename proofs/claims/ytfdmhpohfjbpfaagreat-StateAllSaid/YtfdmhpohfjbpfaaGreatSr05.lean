import Derived.Defers
import Derived.Recover
import Derived.Deep.RegionLaw
import Derived.Test.YtfdmhpohfjbpfaaGreatSr04
set_option linter.unusedVariables false
set_option linter.unusedSimpArgs false
namespace Go.Proofs.YtfdmhpohfjbpfaaGreat
open Go.ChangeShapes Go.WideShapes Go.ChangeAt Go.RowKit
set_option maxRecDepth 100000
set_option maxHeartbeats 16000000
theorem JW:sG Tryz.prog 52 3 1 8 where
 under:=Tryz.underlying52
 info:=by
  have h:(Tryz.prog.info? 3).map (fun i=>(i.zero,i.size,i.bytes))=some (some (.int .i64 0),1,8):=k_;obtain⟨i,hi,h0,h1,h2⟩:=info_parts h;exact⟨i,_,hi,h0,h1,h2,rfl⟩
 pos:=d_
 oJ:=d_
def C0(ls:List aV)(k:Nat):List Int:=(List.range k).map fun i:Nat=> bV ls ((i:Int)+1)
theorem AB(ls:List aV)(k:Nat):C0 ls (k+1)=C0 ls k++[bV ls ((k:Int)+1)]:=by unfold C0;rw[List.range_succ,List.map_append];rfl
theorem C5(ls:List aV):C0 ls 16=je ls:=rfl
theorem jz.app{w w':World}{o:Obj}{B mb mn B0:Nat}{mf:Int→ Option Int}{ls:List aV}{e:TypeId}{size:Nat}{v:Value}{n:Nat}{xs:List Value}(h:jz w B mb mn mf ls)(hown:w.ownsRow B0 e size v n xs)(hg:(w.alloc o).grownBy w' v.ownBlock):jz w' B mb mn mf ls:=by
 refine⟨?_,h.out,h.base,h.small⟩;have hm:=h.map;have hlt:=hm.lt;obtain⟨D,⟨es,clock,h1,h2⟩,hf⟩:=hm;have hne:v.ownBlock≠ some mb:=by
  intro e;rcases hown.2 with⟨rfl,_⟩|⟨g,cap,cur,rfl,_,LB,_⟩
  ·simp[Value.ownBlock]at e
  ·simp[Value.ownBlock]at e;subst e;rw[h1]at LB;cases LB
 refine⟨D,⟨es,clock,?_,h2⟩,hf⟩;rw[hg.block mb (by simp;omega) (by first|exact hne|exact fun e=>hne e.symm|exact fun e=>hne e),heap_alloc_old w o hlt];exact h1
def rb(w:World)(B g:Nat)(s:St)(e:Ending)(w':World):Prop:= e= .returned (.tuple #[])∧∃r,aU w' g (Raw.cells r)∧aX w' B r (bG s)∧Below g w w'∧dF g w w'
def rS(w:World)(B g:Nat)(r0:Raw)(s:St)(e:Ending)(w':World):Prop:= e= .returned (.tuple #[])∧∃r,aU w' g (Raw.cells r)∧aX w' B r (bG s)∧Below g w w'∧dF g w w'∧r.cG= r0.cG∧r.eY= r0.eY∧r.ft= r0.ft∧cg w.heap.size r0.cD.a r.cD.a
theorem Jv{w w3 w5 w7:World}{B g:Nat}{term ag next:Int}{a1 a2 a3 a4 x1:Option Addr}{n1 c1 n2 c2 n3 c3 n4 c4 y1:Nat}{s:St}{l:List aj}(h:aX w B ⟨term,ag,next,⟨a1,n1,c1⟩,⟨a2,n2,c2⟩,⟨a3,n3,c3⟩,⟨a4,n4,c4⟩⟩ s)(hg:g< B)(hB:B≤ w.heap.size)(hl:jB s.ax (je s.ai)=l)(b3:Below w.heap.size w w3)(b5:Below w3.heap.size w3 w5)(LA:aU w5 g (Raw.cells ⟨term,ag,next,⟨a1,n1,c1⟩,⟨a2,n2,c2⟩,⟨a3,n3,c3⟩,⟨a4,n4,c4⟩⟩))(hle:l.length≤ y1)(hnil:x1= none→y1= 0)(cE:cg w3.heap.size a1 x1)(hrow:dK w5 x1 l)(h7:w7= w5.setCell ⟨g,3,none⟩ (.slice x1 l.length y1)):rS w B g ⟨term,ag,next,⟨a1,n1,c1⟩,⟨a2,n2,c2⟩,⟨a3,n3,c3⟩,⟨a4,n4,c4⟩⟩ s (.returned (.tuple #[])) w7:=by
 have s3:=b3.size;have QP:Below w.heap.size w w5:=b3.trans (b5.mono s3);have m7:cx B w.heap.size w w7:=by rw[h7];exact(cx.below QP n_).setCell _ _ (.inl hg)
 refine⟨rfl,⟨term,ag,next,⟨x1,l.length,y1⟩,⟨a2,n2,c2⟩,⟨a3,n3,c3⟩,⟨a4,n4,c4⟩⟩,by rw[h7];exact LA.set (i:=3) (by simp) _,?_,?_,?_,rfl,rfl,rfl,cE.mono s3⟩
 ·have tY:cg B none x1:=h.cD.eZ.trans (cE.mono o_);refine⟨h.term,h.ag,h.next,⟨by unfold bG;rw[←hl],hle,hnil,tY,?_⟩,h.cG.eH m7 n_ n_,h.eY.eH m7 n_ n_,h.ft.eH m7 n_ n_⟩;show bF aT w7 x1 (jB s.ax (je s.ai))
  rw[hl,h7];exact Row.pc hrow (fun b o q e=>by rcases tY b o q e with h1|⟨_,_,h1⟩;show b≠g;omega;cases h1) _
 ·rw[h7];exact(QP.mono o_).setCell (p:=⟨g,3,none⟩) (Nat.le_refl g) _
 ·rw[h7];exact(dF.of QP).put (fun B hB=>(Below.refl B w5).setCell (p:=⟨g,3,none⟩) hB _) (fun k hk=>Below.heap_setCell _ _ _ _ (fun e=>hk e))
theorem mJ(s:St)(r:Raw)(B g:Nat)(w:World)(LA:aU w g r.cells)(h:aX w B r s)(hg:g< B)(hB:B≤ w.heap.size)(hfit:Fits s.ai)(cC:s.ax.length≤ 900)(hl2:s.ai.length≤ 900):
 Calls Tryz.prog 56 #[.pointer (some ⟨g,0,none⟩)] w (rS w B g r s):=by
 obtain⟨term,ag,next,⟨a1,n1,c1⟩,⟨a2,n2,c2⟩,⟨a3,n3,c3⟩,⟨a4,n4,c4⟩⟩:=r;have vO:=h_ (fun l (hl:jB s.ax (je s.ai)=l) {w3 w5 w7} b3 b5 fI {x1 y1} hle hnil cE hrow h7=>Jv (w3:=w3) (w5:=w5) (w7:=w7) (x1:=x1) (y1:=y1) (l:=l) h hg hB hl b3 b5 fI hle hnil cE hrow h7);have H1:=h_ h.cD;have H2:=h_ h.cG;have cT:=h_ LA;have HG:Hid (g<w.heap.size):=Nat.lt_of_lt_of_le hg hB;have hout:=h_ (uY s.ai ⟨term,ag,next,⟨a1,n1,c1⟩,⟨a2,n2,c2⟩,⟨a3,n3,c3⟩,⟨a4,n4,c4⟩⟩ w h.cG.len o_ hfit h.cG.row);have uz:=h_ (fun b m d w' (hb:Below w.heap.size w w') (hm:(je s.ai).length=m) (hro:Row w' b ((je s.ai).map (Value.int .i64)))=>Ml s.ax (je s.ai) a1 b n1 c1 m d w' h.cD.len hm cC (by rw[←hm,mB];omega) h.cD.nil h.cD.le (Row.below h.jV hb) hro);have CA:=h_ (sY s.ax (je s.ai));clear h LA hfit;obtain⟨⟨k0,k1,k2,k3,k4,k5,k6⟩,⟨z0,z1,z2,z3,z4,z5,z6⟩,zz⟩:=cT.st;simp only at k0 k1 k2 k3 k4 k5 k6;go_enter Tryz.func56,Tryz.ntmps56;go_wp2_with(first|(refine aa aG rfl (.tmp 6) rfl g 0 rfl ⟨term,ag,next,⟨a1,n1,c1⟩,⟨a2,n2,c2⟩,⟨a3,n3,c3⟩,⟨a4,n4,c4⟩⟩ (.agg (aw term ag next a1 n1 c1 a2 n2 c2 a3 n3 c3 a4 n4 c4)) rfl cT.range ?_)|(go_at_call 58;((with_reducible refine hout.out.mono ?_);rintro e w2 ⟨mb,mn,mf,rfl,hmap,hb2⟩;have Ho:=h_ hmap;clear hmap)));clear k0 k1 k2 k3 k4 k5 k6 z0 z1 z2 z3 z4 z5 z6;go_loopw [3,4] (fun l i wr=>∃k: Nat,∃a c,k≤16∧ i= .int .i64 ((k:Int)+1)∧l= .slice a k c∧Hid (wr.ownsRow w.heap.size 3 1 (.slice a k c) k ((C0 s.ai k).map (Value.int .i64)))∧Below w.heap.size w wr∧Hid (jz wr w.heap.size mb mn mf s.ai)) (fun _ i _=>17- (intOf i).toNat)
 case atStart=>exact ⟨0,none,0,by omega,rfl,rfl,World.ownsRow_nil _ _ _ _,hb2,Ho.out⟩
 case round=>
  obtain⟨k,a,c,hk,rfl,rfl,hown,hb,hmap⟩:=hrel;by_cases hlt:k< 16
  ·have hlt':((k:Int)+1≤ 16):=o_;have HZ:Hid ((mf ((k:Int)+1)).getD 0=bV s.ai ((k:Int)+1)):=hmap.out.out _;have HS:=h_ (AB s.ai k);have HW:Hid ((Lit.int .i64 ((k:Int)+1)).wf=true):=Bd o_ o_;generalize bV s.ai ((k:Int)+1)=z at HZ HS;go_wp2_with(first|(refine nL BU Tryz.underlying100 Tryz.underlying3 Bg rfl (.tmp 14) (.tmp 15) rfl mb mn mf rfl hmap.out.map ((k:Int)+1) HW.out rfl ?_;rw[HZ.out])|(at_builtin;refine eX JW rfl _ _ rfl w.heap.size _ k _ rfl (hown.out.alloc _) (some ⟨wr.heap.size,0,none⟩) 1 1 [.int .i64 z] rfl rfl (Row.new _ _ _ _) (by intro u hu;simp at hu;subst hu;rfl) o_ (by have:=hb.size;simp;omega) ?_;intro a2 c2 w4 eG hg4;have hb4:=Below.app (hb.alloc hb.size _) (hown.out.alloc _) hg4 (by have:=hb.size;simp;omega);have MZ:=h_ (hmap.out.app hown.out hg4);have Dw:=h_ eG;clear hg4 eG));go_roundw
   case rel=>exact ⟨k+1,a2,c2,by omega,by go_num,rfl,by show World.ownsRow _ _ _ _ _ _ _;rw[HS.out,List.map_append];exact Dw.out,hb4,MZ.out⟩
   case measure=>simp [intOf];omega
  ·obtain rfl:k= 16:=o_;have tu:=h_ (cT.below hb HG.out);obtain⟨⟨k0,k1,k2,k3,k4,k5,k6⟩,⟨z0,z1,z2,z3,z4,z5,z6⟩,zz⟩:=tu.st;simp only at k0 k1 k2 k3 k4 k5 k6;go_wp2_with(go_at_call 97;((with_reducible refine(uz.out a 16 c wr hb (mB _) (by rw[←C5];exact jO hown.out)).mono ?_);generalize hres:jB s.ax (je s.ai)=res;have T4:=h_ hres;clear hres;rintro e w5 ⟨x1,y1,rfl,Oq,FU,zX,FX,cv⟩;have K5:=h_ (And.intro Oq (And.intro FU (And.intro zX FX)));clear Oq FU zX FX;have B5:=h_ (tu.next (by simp) cv);obtain⟨⟨k0,k1,k2,k3,k4,k5,k6⟩,⟨z0,z1,z2,z3,z4,z5,z6⟩,zz⟩:=B5.out.st;simp only at k0 k1 k2 k3 k4 k5 k6));go_end0;exact vO.out res T4.out hb cv B5.out K5.1 K5.2.1 K5.2.2.1 K5.2.2.2 rfl
theorem kN(s:St)(r:Raw)(B g:Nat)(w:World)(LA:aU w g r.cells)(h:aX w B r s)(hg:g< B)(hB:B≤ w.heap.size)(hfit:Fits s.ai)(cC:s.ax.length≤ 900)(hl2:s.ai.length≤ 900):
 Calls Tryz.prog 56 #[.pointer (some ⟨g,0,none⟩)] w (rb w B g s):=by
 refine(mJ s r B g w LA h hg hB hfit cC hl2).mono ?_;rintro e w' ⟨h1,q,h2,h3,h4,h5,_⟩;exact⟨h1,q,h2,h3,h4,h5⟩
theorem pS(xs:List aV)(a:Option Addr)(n c:Nat)(cM:FuncId)(cap:Array Value)(p:aV→ Bool)(w:World)(hn:xs.length= n)(hl:n≤ maxLen)(hr:bF aJ w a xs)(qp:∀(args:Array Value) (w:World),(callFunc cM args).run Tryz.prog w= .ok (.enter cM args) w)(hf:∀x∈ xs,∀w',Below w.heap.size w w'→Calls Tryz.prog cM (#[(aJ).val x]++cap) w' fun e w''=>e= .returned (.bool (p x))∧Below w'.heap.size w' w''):
 Calls Tryz.prog 168 #[.slice a n c,.func (.func cM) #[] cap] w fun e w'=>e= .returned (.int .i64 (iL p xs))∧Below w.heap.size w w':=by
 subst hn;have hl2:=cX hl;have HI:=h_ (fun k (hk:k< xs.length)=>sf (p:=p) hk);have HN:=h_ (rZ (p:=p) (xs:=xs));have HF:=h_ hf;generalize iL p xs=res at HI HN ⊢;clear hf;go_enter Tryz.func168,Tryz.ntmps168;go_wp2;go_loopw [8] (fun i wr=>∃k: Nat,k≤xs.length∧ i= .int .i64 k∧(∀j (h:j< xs.length),j<k→ p xs[j]=false)∧Below w.heap.size w wr) (fun i _=>xs.length- (intOf i).toNat)
 case atStart=>exact ⟨0,by omega,rfl,by omega,Below.refl _ _⟩
 case round=>
  obtain⟨k,hk,rfl,hno,hb⟩:=hrel;have sP:=h_ hno;clear hno;by_cases hlt:k< xs.length
  ·obtain⟨b,o,rfl,hcs⟩:=hr.range hlt;have hrange:=h_ (hcs _ hb);have qC:=h_ (HF xs[k] (List.getElem_mem hlt) wr hb);clear hcs;cases hp:p xs[k]with
   |true=>
    go_wp2_with(first|(refine bQ aJ rfl _ rfl b (o+k* (aJ).size) rfl _ hrange.out ?_)|(refine qC.mono ?_;rw[hp];rintro e w2 ⟨rfl,hb2⟩));go_returns;exact⟨dZ (HI k hlt sP.out hp).symm,hb.trans (hb2.mono hb.size)⟩
   |false=>
    go_wp2_with(first|(refine bQ aJ rfl _ rfl b (o+k* (aJ).size) rfl _ hrange.out ?_)|(refine qC.mono ?_;rw[hp];rintro e w2 ⟨rfl,hb2⟩));go_roundw
    case rel=>exact ⟨k+1,by omega,by go_num,fun j h hj=>by rcases Nat.lt_succ_iff_lt_or_eq.1 hj with h1|rfl;exact sP.out j h h1;exact hp,hb.trans (hb2.mono hb.size)⟩
    case measure=>simp [intOf];omega
  ·go_wp2;go_returns;exact⟨dZ (HN fun j h=>sP.out j h o_).symm,hb⟩
def qU(w:World)(B g:Nat)(s:St)(u:FrameMode)(e:Ending)(u':FrameMode)(w':World):Prop:= u'=u∧ rb w B g s e w'
theorem tq7 {P:Prop}(h:P:=by
 go_wp2_with(go_at_call 56;((with_reducible refine h.mono ?_);rintro e w' ⟨rfl,hh⟩));go_end0
 first|exact ⟨rfl,rfl,hh⟩|exact ⟨rfl,hh⟩|exact hh):P:=h
theorem KX(B g:Nat)(s:St)(u:FrameMode)(w:World)(h:Calls Tryz.prog 56 #[.pointer (some ⟨g,0,none⟩)] w (rb w B g s)):CallsD Tryz.prog 55 #[.pointer (some ⟨g,0,none⟩)] u w (qU w B g s u):=by
 go_enter_d Tryz.func55,Tryz.ntmps55;exact tq7
theorem lC(B g:Nat)(s:St)(u:FrameMode)(w:World)(h:Calls Tryz.prog 56 #[.pointer (some ⟨g,0,none⟩)] w (rb w B g s)):CallsD Tryz.prog 122 #[.pointer (some ⟨g,0,none⟩)] u w (qU w B g s u):=by
 go_enter_d Tryz.func122,Tryz.ntmps122;exact tq7
theorem Le(B g:Nat)(s:St)(u:FrameMode)(w:World)(h:Calls Tryz.prog 56 #[.pointer (some ⟨g,0,none⟩)] w (rb w B g s)):CallsD Tryz.prog 128 #[.pointer (some ⟨g,0,none⟩)] u w (qU w B g s u):=by
 go_enter_d Tryz.func128,Tryz.ntmps128;exact tq7
theorem I3(xs:List Int)(a:Option Addr)(n c:Nat)(v:Int)(w:World)(hn:xs.length= n)(hl:n≤ maxLen)(hr:Row w a (xs.map (Value.int .i64))):
 Calls Tryz.prog 170 (Bp a n c v) w fun e w'=>e= .returned (.int .i64 (iL (fun x=>x== v) xs))∧Below w.heap.size w w':=by
 subst hn;have hl2:=cX hl;have HI:=h_ (fun k (hk:k< xs.length)=>sf (p:=fun x=>x== v) hk);have HN:=h_ (rZ (p:=fun x=>x== v) (xs:=xs));generalize iL (fun x=>x== v) xs=res at HI HN ⊢;go_enter Tryz.func170,Tryz.ntmps170;go_wp2;go_loopw [8] (fun i wr=>∃k: Nat,k≤xs.length∧ i= .int .i64 k∧Hid (∀j (h:j< xs.length),j<k→ (xs[j]==v)=false)∧Below w.heap.size w wr) (fun i _=>xs.length- (intOf i).toNat)
 case atStart=>exact ⟨0,by omega,rfl,(fun j _ hj=>by omega),Below.refl _ _⟩
 case round=>
  obtain⟨k,hk,rfl,hno,hb⟩:=hrel;by_cases hlt:k< xs.length
  ·obtain⟨b,o,rfl,hcell⟩:=Row.jH hr (k:=k) (by rw[List.getElem?_map,List.getElem?_eq_getElem hlt];rfl);have hcl:=hcell _ hb;have HK:=h_ (HI k hlt hno.out);have HQ:Hid (xs[k]=xs[k]):=rfl;generalize hx:xs[k]=x at hcl HK;have HX:=h_ hx;clear hcell hx;by_cases he:v= x
   ·subst he;go_wp2;go_returns;exact⟨dZ (HK (by simp)).symm,hb⟩
   ·go_wp2;go_roundw
    case rel=>exact ⟨k+1,by omega,by go_num,(fun j h hj=>by rcases Nat.lt_succ_iff_lt_or_eq.1 hj with h1|rfl;exact hno.out j h h1;rw[HX.out];simp;exact fun e=>he e.symm),hb⟩
    case measure=>simp [intOf];omega
  ·go_wp2;go_returns;exact⟨dZ (HN fun j h=>hno.out j h o_).symm,hb⟩
theorem contains_eq(v:Int)(xs:List Int):decide (0≤iL (fun x=>x== v) xs)=xs.contains v:=by
 rcases oW (fun x=>x== v) xs with⟨h1,h2⟩|⟨k,hk,h1,h2,_⟩
 ·rw[h1];have h3:xs.contains v=false:= by
   rw[Bool.eq_false_iff];intro h;rw[List.contains_iff_mem]at h;have:=h2 v h;simp at this
  rw[h3];rfl
 ·rw[h1];have h3:xs.contains v=true:= by rw[List.contains_iff_mem,←show xs[k]=v by simpa using h2];exact List.getElem_mem hk
  rw[h3,decide_eq_true o_]
theorem BF(xs:List Int)(a:Option Addr)(n c:Nat)(v:Int)(w:World)(hn:xs.length= n)(hl:n≤ maxLen)(hr:Row w a (xs.map (Value.int .i64))):
 Calls Tryz.prog 131 (Bp a n c v) w fun e w'=>e= .returned (.bool (xs.contains v))∧Below w.heap.size w w':=by
 have HI:=h_ (I3 xs a n c v w hn hl hr);have HC:=h_ (contains_eq v xs);generalize xs.contains v=res at HC ⊢;clear hr;go_enter Tryz.func131,Tryz.ntmps131;go_wp2_with(go_at_call 170;((with_reducible refine HI.out.mono ?_);rintro e w' ⟨rfl,hb⟩));go_returns;exact⟨bZ HC.out,hb⟩
theorem Fs(x:aV)(xs:List Int)(g:Nat)(a:Option Addr)(n c:Nat)(w:World)(hn:xs.length= n)(hl:n≤ maxLen)(hc:w.cell? ⟨g,0,none⟩=some (.slice a n c))(hr:Row w a (xs.map (Value.int .i64))):
 Calls Tryz.prog 130 #[x.agg,.pointer (some ⟨g,0,none⟩)] w fun e w'=>e= .returned (.bool (xs.contains x.id))∧Below w.heap.size w w':=by
 have hlt:=World.block_lt_of_cell? w _ hc;simp only at hlt;have HC:=h_ (fun w' (hb:Below w.heap.size w w')=>BF xs a n c x.id w' hn hl (Row.below hr hb));clear hr;generalize xs.contains x.id=res at HC ⊢;obtain⟨x0,x1,x2,x3,x4,x5,x6⟩:=x;go_enter Tryz.func130,Tryz.ntmps130;go_wp2_with(go_at_call 131;((with_reducible refine(HC.out _ aH).mono ?_);rintro e w' ⟨rfl,hb⟩));go_returns;exact⟨rfl,aH⟩
theorem BJ(args:Array Value)(w:World):(callFunc 130 args).run Tryz.prog w= .ok (.enter 130 args) w:=k_
theorem lB(xs:List aV)(a:Option Addr)(n c:Nat)(cM:FuncId)(cap:Array Value)(p:aV→ Bool)(w:World)(hn:xs.length= n)(hl:n≤ maxLen)(hr:bF aJ w a xs)(qp:∀(args:Array Value) (w:World),(callFunc cM args).run Tryz.prog w= .ok (.enter cM args) w)(hf:∀x∈ xs,∀w',Below w.heap.size w w'→Calls Tryz.prog cM (#[aJ.val x]++cap) w' fun e w''=>e= .returned (.bool (p x))∧Below w'.heap.size w' w''):
 Calls Tryz.prog 123 #[.slice a n c,.func (.func cM) #[] cap] w fun e w'=>e= .returned (.tuple (WS (iL p xs) (decide (0≤iL p xs))))∧Below w.heap.size w w':=by
 have HI:=h_ (pS xs a n c cM cap p w hn hl hr qp hf);clear hf qp;go_enter Tryz.func123,Tryz.ntmps123;go_wp2_with(go_at_call 168;((with_reducible refine HI.out.mono ?_);rintro e w' ⟨rfl,hb⟩));go_returns;exact⟨rfl,hb⟩
theorem yg(xs:List aj)(a:Option Addr)(n c:Nat)(cM:FuncId)(cap:Array Value)(p:aj→ Bool)(w:World)(hn:xs.length= n)(hl:n≤ maxLen)(hr:bF aT w a xs)(qp:∀(args:Array Value) (w:World),(callFunc cM args).run Tryz.prog w= .ok (.enter cM args) w)(hf:∀x∈ xs,∀w',Below w.heap.size w w'→Calls Tryz.prog cM (#[aT.val x]++cap) w' fun e w''=>e= .returned (.bool (p x))∧Below w'.heap.size w' w''):
 Calls Tryz.prog 78 #[.slice a n c,.func (.func cM) #[] cap] w fun e w'=>e= .returned (.bool (decide (0≤iL p xs)))∧Below w.heap.size w w':=by
 have HI:=h_ (mA xs a n c cM cap p w hn hl hr qp hf);clear hf qp;go_enter Tryz.func78,Tryz.ntmps78;go_wp2_with(go_at_call 39;((with_reducible refine HI.out.mono ?_);rintro e w' ⟨rfl,hb⟩));go_returns;exact⟨rfl,hb⟩
theorem Ic(x:aj)(ls:List aV)(g B b n:Nat)(f:Int→ Option Int)(w:World)(h1:1≤ x.id∧x.id≤ 16)(h2:x.bucket≤ 1000000000)(h3:0≤ x.aq∧x.aq≤ 1000000)(ho:0≤ bV ls x.id∧bV ls x.id≤1000000000)(hc:w.cell? ⟨g,0,none⟩=some (.map (some b)))(hm:jz w B b n f ls):
 Calls Tryz.prog 79 #[x.agg,.pointer (some ⟨g,0,none⟩)] w fun e w'=>e= .returned (.bool (!ei ls x))∧Below w.heap.size w w':=by
 have hlt:=World.block_lt_of_cell? w _ hc;simp only at hlt;have HM:=h_ hm;have HW:Hid ((Lit.int .i64 x.id).wf=true):=Bd o_ o_;have HR:Hid (ei ls x=decide (0<x.bucket→ x.bucket+1000* bV ls x.id≤1000* x.aq)):=rfl;generalize ei ls x=res at HR ⊢;obtain⟨id,aK,aq,bucket,gone⟩:=x;simp only at h1 h2 h3 ho HW HR;have HZ:Hid ((f id).getD 0=bV ls id):=hm.out id;generalize bV ls id=z at ho HR HZ;obtain⟨ho1,py⟩:=ho;obtain⟨h31,h32⟩:=h3;clear hm;by_cases hb0:0< bucket
 ·have hg:decide (0<bucket)=true:= decide_eq_true hb0;go_enter Tryz.func79,Tryz.ntmps79;go_wp2_with(first|(refine jw (by rfl) ?_;refine nL BU Tryz.underlying100 Tryz.underlying3 Bg rfl (.tmp 10) (.tmp 12) rfl b n f rfl (HM.map.alloc _) id HW.out rfl ?_;rw[HZ.out]));go_returns;refine⟨bZ ?_,aH⟩;rw[HR.out,Bool.eq_iff_iff];simp only[decide_eq_true_iff,Bool.not_eq_true',decide_eq_false_iff_not];omega
 ·have hg:decide (0<bucket)=false:= decide_eq_false hb0;go_enter Tryz.func79,Tryz.ntmps79;go_wp2;go_returns;refine⟨bZ ?_,aH⟩;rw[HR.out,decide_eq_true (fun h=>absurd h o_)];rfl
theorem BK(args:Array Value)(w:World):(callFunc 79 args).run Tryz.prog w= .ok (.enter 79 args) w:=k_
theorem Dg{s:St}(h:aZ 0 s.ax=false):cp s=false:= by unfold cp;rw[h];rfl
theorem Mf{s:St}(h:¬(s.ai.length≤64∧ 1≤s.next∧ s.next≤1099511627776)):cp s=false:= by unfold cp;rw[decide_eq_false h];simp
theorem Mg{s:St}(h:eu s.ax s.next s.ai=false):cp s=false:= by unfold cp;rw[h];simp
theorem Rt(p:aj→ Bool)(ts:List aj):(!decide (0≤iL (fun t=> !p t) ts))=ts.all p:=by
 rcases oW (fun t=> !p t) ts with⟨h1,h2⟩|⟨k,hk,h1,h2,_⟩
 ·rw[h1];have:ts.all p=true:= List.all_eq_true.2 fun x hx=>by have:=h2 x hx;simpa using this
  rw[this];rfl
 ·rw[h1];have:ts.all p=false:= by
   rw[List.all_eq_false];exact⟨ts[k],List.getElem_mem hk,by simpa using h2⟩
  rw[this,decide_eq_true o_];rfl
theorem Pp{s:St}(h1:aZ 0 s.ax=true)(h2:eu s.ax s.next s.ai=true)(h3:s.ai.length≤ 64∧1≤ s.next∧s.next≤ 1099511627776):(!decide (0≤iL (fun t=> !ei s.ai t) s.ax))=cp s:=by
 unfold cp;rw[h1,h2,decide_eq_true h3,Rt];simp
def rG(ok:Bool)(next last:Int)(x:aV):Prop:= ok=true∧ last<x.id∧ x.id<next∧ 1≤x.ak∧ x.ak≤8∧ 1≤x.aM∧ 1≤x.number∧ 1≤x.size∧ x.size≤1000000∧ 0≤x.bN∧ x.bN<x.size
theorem Gj{ts:List aj}{next last:Int}{x:aV}:(decide (last<x.id)&&jM ts next x)=true↔ rG (bf ts x.aC).2 next last x:=by
 unfold jM rG;simp only[Bool.and_eq_true,decide_eq_true_eq];constructor
 ·rintro⟨h1,h2,h3⟩;exact⟨h2,h1,h3⟩
 ·rintro⟨h1,h2,h3⟩;exact⟨h2,h1,h3⟩
theorem xK{ts:List aj}{next:Int}{ls:List aV}{k:Nat}(h:k< ls.length)(hk:eu ts next (ls.take k)=true)(h1:rG (bf ts ls[k].aC).2 next (cU aV.id 0 (ls.take k)) ls[k]):eu ts next (ls.take (k+1))=true:= by
 unfold eu at*;rw[mv h,hk,Gj.2 h1];rfl
theorem Aj{ts:List aj}{next:Int}{ls:List aV}{k:Nat}(h:k< ls.length)(h1:¬rG (bf ts ls[k].aC).2 next (cU aV.id 0 (ls.take k)) ls[k]):eu ts next ls=false:= by
 refine rh h ?_;cases hh:(decide (cU aV.id 0 (ls.take k)<ls[k].id)&&jM ts next ls[k])with
 |false=> rfl
 |true=> exact absurd (Gj.1 hh) h1
theorem pd{ts:List aj}{x:aj}(h:aZ 0 ts=true)(hx:x∈ ts):(1≤x.id∧ x.id≤16)∧(0≤x.aK∧ x.aK≤1000000)∧(0≤x.aq∧ x.aq≤1000000)∧(0≤x.bucket∧ x.bucket≤1000000000):=by
 have h1:=(cJ.1 h).1 x hx;have h2:=h1.2;unfold yq zD vY mg at h2;simp only[Bool.and_eq_true,decide_eq_true_eq]at h2;omega
theorem tq8 {P:Prop}(h:P:=by
 go_wp2_with(go_at_call 76;((with_reducible refine(dJ ts a1 _ _ _ rfl hmax (hr1.below aH)).mono ?_);rw[HT.out];rintro e w3 ⟨rfl,hb3⟩;have Ek:Below (World.alloc w (.cells (aw term ag next a1 ts.length c1 a2 ls.length c2 a3 n3 c3 a4 n4 c4) 27)).heap.size (World.alloc w (.cells (aw term ag next a1 ts.length c1 a2 ls.length c2 a3 n3 c3 a4 n4 c4) 27)) w3:=aH;have hx3:=aW Ek;have zx3:=aY Ek;have Tu:=Below.boxed Ek;clear Ek));go_returns
 exact⟨bZ HO.symm,aH⟩):P:=h
theorem gY(s:St)(r:Raw)(B:Nat)(w:World)(h:aX w B r s)(hl:s.ax.length≤ 900)(hl2:s.ai.length≤ 900):
 Calls Tryz.prog 43 #[r.agg] w fun e w'=>e= .returned (.bool (cp s))∧Below w.heap.size w w':=by
 obtain⟨term,ag,next,⟨a1,n1,c1⟩,⟨a2,n2,c2⟩,⟨a3,n3,c3⟩,⟨a4,n4,c4⟩⟩:=r;obtain⟨ml,jA,nx,ts,ls,ss,ds⟩:=s;have hnx:=h.next;have J0:=h.cD.len;have iX:=h.cG.len;have hr1:=h.jV;have hr2:=h.cG.row;simp only at hnx J0 iX hr1 hr2 hl hl2;subst hnx;subst J0;subst iX;clear h;have hmax:ts.length≤ maxLen:=bD o_;have iJ:Hid (aZ 0 ts=false→ cp ⟨ml,jA,next,ts,ls,ss,ds⟩=false):=fun h=>Dg h
 have nO:Hid (¬(ls.length≤64∧ 1≤next∧ next≤1099511627776)→cp ⟨ml,jA,next,ts,ls,ss,ds⟩=false):=fun h=>Mf h
 have kX:Hid (eu ts next ls=false→ cp ⟨ml,jA,next,ts,ls,ss,ds⟩=false):=fun h=>Mg h
 have vO:Hid (aZ 0 ts=true→ eu ts next ls=true→ (ls.length≤64∧ 1≤next∧ next≤1099511627776)→(!decide (0≤iL (fun t=> !ei ls t) ts))=cp ⟨ml,jA,next,ts,ls,ss,ds⟩):=fun h1 h2 h3=>Pp (s:=⟨ml,jA,next,ts,ls,ss,ds⟩) h1 h2 h3
 generalize cp ⟨ml,jA,next,ts,ls,ss,ds⟩=res at iJ nO kX vO ⊢;have qp:=BK;have D3:∀(fn:Fn) (first cap:Array Value) (w:World),(Instr.makeFunc fn first cap).run Tryz.prog w= .ok (.func fn first cap) w:=fun _ _ _ _=>rfl
 cases ht:aZ 0 ts with
 |false=>
  have HT:=h_ ht;have HO:=h_ (iJ ht);clear ht iJ nO kX vO;go_enter Tryz.func43,Tryz.ntmps43;go_wp2_with(go_at_call 76;((with_reducible refine(dJ ts a1 _ _ _ rfl hmax (hr1.below aH)).mono ?_);rw[HT.out];rintro e w3 ⟨rfl,hb3⟩));go_returns;exact⟨bZ HO.symm,aH⟩
 |true=>
  have HT:=h_ ht;clear ht;by_cases hsz:ls.length≤ 64∧1≤ next∧next≤ 1099511627776
  ·obtain⟨g1,g2,g3⟩:=hsz;have yH:=h_ (And.intro g1 (And.intro g2 g3));have Ug:=h_ (fun x hx=>pd (x:=x) HT.out hx);have HFT:Hid (eu ts next ls=true→ Fits ls):=fun h=>bU HT.out h
   have HN:=h_ (fun k (h:k< ls.length)=>xK (ts:=ts) (next:=next) h);have HX:=h_ (fun k (h:k< ls.length)=>Aj (ts:=ts) (next:=next) h);have HL:=h_ (fun k (h:k< ls.length)=>jt (key:=aV.id) (a:=0) h);have H0:Hid (eu ts next (ls.take 0)=true):=rfl;clear iJ nO;go_enter Tryz.func43,Tryz.ntmps43;go_wp2_with(go_at_call 76;((with_reducible refine(dJ ts a1 _ _ _ rfl hmax (hr1.below aH)).mono ?_);rw[HT.out];rintro e w3 ⟨rfl,hb3⟩;have Ek:Below (World.alloc w (.cells (aw term ag next a1 ts.length c1 a2 ls.length c2 a3 n3 c3 a4 n4 c4) 27)).heap.size (World.alloc w (.cells (aw term ag next a1 ts.length c1 a2 ls.length c2 a3 n3 c3 a4 n4 c4) 27)) w3:=aH;have hx3:=aW Ek;have zx3:=aY Ek;have Tu:=Below.boxed Ek;clear Ek));go_loopw [3,32] (fun la i wr=>∃k: Nat,k≤ls.length∧ i= .int .i64 k∧la= .int .i64 (cU aV.id 0 (ls.take k))∧Hid (eu ts next (ls.take k)=true)∧Below (World.alloc w (.cells (aw term ag next a1 ts.length c1 a2 ls.length c2 a3 n3 c3 a4 n4 c4) 27)).heap.size (World.alloc w (.cells (aw term ag next a1 ts.length c1 a2 ls.length c2 a3 n3 c3 a4 n4 c4) 27)) wr) (fun _ i _=>ls.length- (intOf i).toNat)
   case atStart=>exact ⟨0,by omega,rfl,rfl,H0.out,aH⟩
   case round=>
    obtain⟨k,hk,rfl,rfl,hok,hb0⟩:=hrel;have hb:Below w.heap.size w wr:=ah hb0;have hx3:=aW hb0;have Tu:=Below.boxed hb0;by_cases hlt:k< ls.length
    ·obtain⟨b,o,rfl,hcs⟩:=zE hr2 hlt;have hx:=hcs _ hb;have pn:=h_ (HN k hlt hok.out);have iO:=h_ (HX k hlt);have qj:=h_ (HL k hlt);generalize ls[k]=x at hx pn iO qj;generalize cU aV.id 0 (ls.take k)=la at pn iO ⊢;clear hcs;obtain⟨ur,vK,G5,Ki,Kj,yC,Dr⟩:=x;rcases fk:bf ts vK with⟨⟨cM,bH,aN,aL,fK⟩,ok⟩;have qD:=h_ fk;simp only[fk]at pn iO;by_cases hgo:rG ok next la ⟨ur,vK,G5,Ki,Kj,yC,Dr⟩
     ·have zm:=h_ (pn hgo);obtain⟨rfl,p1,p2,p3,p4,p5,p6,p7,p8,p9,p10⟩:=hgo;simp only at p1 p2 p3 p4 p5 p6 p7 p8 p9 p10;clear fk pn iO;go_wp2_with(go_at_call 77;((with_reducible refine(fu ts a1 _ _ _ _ rfl hmax (hr1.below aH)).mono ?_);rw[qD.out];rintro e w4 ⟨rfl,hb4⟩;have El:Below (World.alloc wr (.cells (xd ur vK G5 Ki Kj yC Dr) 59)).heap.size (World.alloc wr (.cells (xd ur vK G5 Ki Kj yC Dr) 59)) w4:=aH;have D7:=aW El;have zx4:=aY El;have sx4:=Below.boxed El;clear El;have cv:Below (World.alloc w (.cells (aw term ag next a1 ts.length c1 (some ⟨b,o,none⟩) ls.length c2 a3 n3 c3 a4 n4 c4) 27)).heap.size (World.alloc w (.cells (aw term ag next a1 ts.length c1 (some ⟨b,o,none⟩) ls.length c2 a3 n3 c3 a4 n4 c4) 27)) w4:=aH;have J4:=aW cv;have sx5:=Below.boxed cv));go_roundw
      case rel=>exact ⟨k+1,by omega,by go_num,by rw[qj.out],zm.out,aH⟩
      case measure=>simp [intOf];omega
     ·have HO:=h_ (kX (iO hgo));have HG:=h_ hgo;clear fk pn iO hgo;cases ok with
      |false=>
       go_wp2_with(go_at_call 77;((with_reducible refine(fu ts a1 _ _ _ _ rfl hmax (hr1.below aH)).mono ?_);rw[qD.out];rintro e w4 ⟨rfl,hb4⟩;have El:Below (World.alloc wr (.cells (xd ur vK G5 Ki Kj yC Dr) 59)).heap.size (World.alloc wr (.cells (xd ur vK G5 Ki Kj yC Dr) 59)) w4:=aH;have D7:=aW El;have zx4:=aY El;have sx4:=Below.boxed El;clear El));go_returns;exact⟨bZ HO.symm,aH⟩
      |true=>
       go_wp2_with(go_at_call 77;((with_reducible refine(fu ts a1 _ _ _ _ rfl hmax (hr1.below aH)).mono ?_);rw[qD.out];rintro e w4 ⟨rfl,hb4⟩;have El:Below (World.alloc wr (.cells (xd ur vK G5 Ki Kj yC Dr) 59)).heap.size (World.alloc wr (.cells (xd ur vK G5 Ki Kj yC Dr) 59)) w4:=aH;have D7:=aW El;have zx4:=aY El;have sx4:=Below.boxed El;clear El;have cv:Below (World.alloc w (.cells (aw term ag next a1 ts.length c1 (some ⟨b,o,none⟩) ls.length c2 a3 n3 c3 a4 n4 c4) 27)).heap.size (World.alloc w (.cells (aw term ag next a1 ts.length c1 (some ⟨b,o,none⟩) ls.length c2 a3 n3 c3 a4 n4 c4) 27)) w4:=aH;have J4:=aW cv;have sx5:=Below.boxed cv))
       all_goals first
        |(go_returns;exact⟨bZ HO.symm,aH⟩)
        |(exfalso;refine HG.out ⟨rfl,?_⟩;simp only;omega)
    ·obtain rfl:k= ls.length:=o_;have hlk:eu ts next ls=true:= by have:=hok.out;rw[List.take_length]at this;exact this
     have hfit:=HFT.out hlk;have HO:=h_ (vO HT.out hlk yH.out);have gB:=h_ (fun id=>fM id hfit);have Xa:=h_ hfit;clear hlk hfit;go_wp2_with(first|(refine aa aG rfl (.tmp 1) rfl w.heap.size 0 rfl ⟨term,ag,next,⟨a1,ts.length,c1⟩,⟨a2,ls.length,c2⟩,⟨a3,n3,c3⟩,⟨a4,n4,c4⟩⟩ (.agg (aw term ag next a1 ts.length c1 a2 ls.length c2 a3 n3 c3 a4 n4 c4)) rfl (jY hb0) ?_)|(go_at_call 58;((with_reducible refine(uY ls ⟨term,ag,next,⟨a1,ts.length,c1⟩,⟨a2,ls.length,c2⟩,⟨a3,n3,c3⟩,⟨a4,n4,c4⟩⟩ _ rfl o_ Xa.out (hr2.below hb)).mono ?_);rintro e w5 ⟨mb,mn,mf,rfl,hmap,cv⟩;have Ho:=h_ hmap;clear hmap;have df:Below (World.alloc w (.cells (aw term ag next a1 ts.length c1 a2 ls.length c2 a3 n3 c3 a4 n4 c4) 27)).heap.size (World.alloc w (.cells (aw term ag next a1 ts.length c1 a2 ls.length c2 a3 n3 c3 a4 n4 c4) 27)) w5:=aH;have Hh:=aW df;have sx6:=Below.boxed df))|(go_at_call 78;((with_reducible refine(yg ts a1 _ _ _ _ (fun t=> !ei ls t) _ rfl hmax (bF.below (L:=aT) hr1 aH) qp (fun x hx w' hb'=>Ic x ls w5.heap.size wr.heap.size mb mn mf w' (Ug.out x hx).1 (Ug.out x hx).2.2.2.2 (Ug.out x hx).2.2.1 (by have:=gB.out x.id;omega) ((hb'.cell (p:=⟨w5.heap.size,0,none⟩) (by simp)).trans (World.cell?_alloc_at _ _ _ 0 rfl)) (Ho.out.below (ah hb')))).mono ?_);rintro e w7 ⟨rfl,cL⟩)));go_returns;exact⟨bZ HO.out,aH⟩
  ·have HO:=h_ (nO hsz);have yH:=h_ hsz;clear hsz iJ nO kX vO;go_enter Tryz.func43,Tryz.ntmps43;by_cases g1:64< ls.length
   ·have g1':decide ((64:Int)<(ls.length:Int))=true:= decide_eq_true o_;exact tq8
   ·by_cases g2:next< 1
    ·exact tq8
    ·have g3:1099511627776< next:=by have:=yH.out;omega
     exact tq8
def CH(w:World)(xs:List aj)(e:Ending)(w':World):Prop:=
 ∃a c,e= .returned (.slice a xs.length c)∧cg w.heap.size none a∧Can w' w.heap.size 75 (aT).size a xs.length c (xs.flatMap (aT).cells)∧
  (0<xs.length→ w'.ownsRow w.heap.size 75 (aT).size (.slice a xs.length c) xs.length (xs.flatMap (aT).cells))∧(∀b o s,a=some ⟨b,o,s⟩→b< w'.heap.size)∧Below w.heap.size w w'
theorem NK(xs:List aj)(a:Option Addr)(n c:Nat)(w:World)(hn:xs.length= n)(hby:n* (aT).bytes≤140737488355328)(hm:n≤ maxLen)(hc:a= none→c= 0)(hnc:n≤ c)(hr:bF aT w a xs):
 Calls Tryz.prog 98 #[.slice a n c] w (CH w xs):=by
 subst hn;cases a with
 |none=>
  obtain rfl:=hc rfl;have h0:xs.length= 0:=o_;obtain rfl:xs= []:=List.eq_nil_of_length_eq_zero h0;go_enter Tryz.func98,Tryz.ntmps98;have hnil:=Lib.run_eql_slice_nil (P:=Tryz.prog) w 22 75 none 0 0 0 0 Tryz.underlying22;go_wp2;go_returns;exact⟨none,0,rfl,cg.nil _ _,Can.nil _ _ _ _,fun h=>absurd h (by simp),fun _ _ _ h=>(by cases h),Below.refl _ _⟩
 |some x=>
  have HR:=h_ hr;clear hr;go_enter Tryz.func98,Tryz.ntmps98;have hnil:=Lib.run_eql_slice_nil (P:=Tryz.prog) w 22 75 (some x) xs.length c 0 0 Tryz.underlying22;go_wp2_with(at_builtin;refine dU ((aT).elem Tryz.underlying22) rfl _ _ rfl w.heap.size _ 0 _ _ rfl (Can.empty _ _ _ _ _) _ xs.length _ (xs.flatMap (aT).cells) rfl ((aT).length _) (Row.alloc HR.out _) ((aT).rI _) (by rw[Nat.zero_add];exact hby) (by simp) ?_;intro a' c' w3 fc _ hb3 hown);go_returns;rw[Nat.zero_add,List.nil_append]at fc hown;have cE:cg w.heap.size none a':=by
   by_cases h0:0< xs.length
   ·exact cg.own (hown.1 h0) n_
   ·rw[(hown.2 o_).1];intro b o s hb;simp at hb;exact .inl o_
  have hblt:∀b o s,a'=some ⟨b,o,s⟩→b< w3.heap.size:=fun b o s hab=>by
   by_cases h0:0< xs.length
   ·exact((hown.1 h0).lt b (by rw[hab];rfl)).2
   ·have h1:=hb3.size;rw[(hown.2 o_).1]at hab;simp at hab h1;omega
  exact⟨a',c',rfl,cE,fc,fun h=>hown.1 h,hblt,(b_.alloc n_ _).trans hb3⟩
def CF(w:World)(xs:List aV)(e:Ending)(w':World):Prop:=
 ∃a c,e= .returned (.slice a xs.length c)∧cg w.heap.size none a∧Can w' w.heap.size 59 (aJ).size a xs.length c (xs.flatMap (aJ).cells)∧
  (0<xs.length→ w'.ownsRow w.heap.size 59 (aJ).size (.slice a xs.length c) xs.length (xs.flatMap (aJ).cells))∧(∀b o s,a=some ⟨b,o,s⟩→b< w'.heap.size)∧Below w.heap.size w w'
theorem NJ(xs:List aV)(a:Option Addr)(n c:Nat)(w:World)(hn:xs.length= n)(hby:n* (aJ).bytes≤140737488355328)(hm:n≤ maxLen)(hc:a= none→c= 0)(hnc:n≤ c)(hr:bF aJ w a xs):
 Calls Tryz.prog 99 #[.slice a n c] w (CF w xs):=by
 subst hn;cases a with
 |none=>
  obtain rfl:=hc rfl;have h0:xs.length= 0:=o_;obtain rfl:xs= []:=List.eq_nil_of_length_eq_zero h0;go_enter Tryz.func99,Tryz.ntmps99;have hnil:=Lib.run_eql_slice_nil (P:=Tryz.prog) w 23 59 none 0 0 0 0 Tryz.underlying23;go_wp2;go_returns;exact⟨none,0,rfl,cg.nil _ _,Can.nil _ _ _ _,fun h=>absurd h (by simp),fun _ _ _ h=>(by cases h),Below.refl _ _⟩
 |some x=>
  have HR:=h_ hr;clear hr;go_enter Tryz.func99,Tryz.ntmps99;have hnil:=Lib.run_eql_slice_nil (P:=Tryz.prog) w 23 59 (some x) xs.length c 0 0 Tryz.underlying23;go_wp2_with(at_builtin;refine dU ((aJ).elem Tryz.underlying23) rfl _ _ rfl w.heap.size _ 0 _ _ rfl (Can.empty _ _ _ _ _) _ xs.length _ (xs.flatMap (aJ).cells) rfl ((aJ).length _) (Row.alloc HR.out _) ((aJ).rI _) (by rw[Nat.zero_add];exact hby) (by simp) ?_;intro a' c' w3 fc _ hb3 hown);go_returns;rw[Nat.zero_add,List.nil_append]at fc hown;have cE:cg w.heap.size none a':=by
   by_cases h0:0< xs.length
   ·exact cg.own (hown.1 h0) n_
   ·rw[(hown.2 o_).1];intro b o s hb;simp at hb;exact .inl o_
  have hblt:∀b o s,a'=some ⟨b,o,s⟩→b< w3.heap.size:=fun b o s hab=>by
   by_cases h0:0< xs.length
   ·exact((hown.1 h0).lt b (by rw[hab];rfl)).2
   ·have h1:=hb3.size;rw[(hown.2 o_).1]at hab;simp at hab h1;omega
  exact⟨a',c',rfl,cE,fc,fun h=>hown.1 h,hblt,(b_.alloc n_ _).trans hb3⟩
def CG(w:World)(xs:List aD)(e:Ending)(w':World):Prop:=
 ∃a c,e= .returned (.slice a xs.length c)∧cg w.heap.size none a∧Can w' w.heap.size 92 (aB).size a xs.length c (xs.flatMap (aB).cells)∧
  (0<xs.length→ w'.ownsRow w.heap.size 92 (aB).size (.slice a xs.length c) xs.length (xs.flatMap (aB).cells))∧(∀b o s,a=some ⟨b,o,s⟩→b< w'.heap.size)∧Below w.heap.size w w'
theorem zI(xs:List aD)(a:Option Addr)(n c:Nat)(w:World)(hn:xs.length= n)(hby:n* (aB).bytes≤140737488355328)(hm:n≤ maxLen)(hc:a= none→c= 0)(hnc:n≤ c)(hr:bF aB w a xs):
 Calls Tryz.prog 100 #[.slice a n c] w (CG w xs):=by
 subst hn;cases a with
 |none=>
  obtain rfl:=hc rfl;have h0:xs.length= 0:=o_;obtain rfl:xs= []:=List.eq_nil_of_length_eq_zero h0;go_enter Tryz.func100,Tryz.ntmps100;have hnil:=Lib.run_eql_slice_nil (P:=Tryz.prog) w 24 92 none 0 0 0 0 Tryz.underlying24;go_wp2;go_returns;exact⟨none,0,rfl,cg.nil _ _,Can.nil _ _ _ _,fun h=>absurd h (by simp),fun _ _ _ h=>(by cases h),Below.refl _ _⟩
 |some x=>
  have HR:=h_ hr;clear hr;go_enter Tryz.func100,Tryz.ntmps100;have hnil:=Lib.run_eql_slice_nil (P:=Tryz.prog) w 24 92 (some x) xs.length c 0 0 Tryz.underlying24;go_wp2_with(at_builtin;refine dU ((aB).elem Tryz.underlying24) rfl _ _ rfl w.heap.size _ 0 _ _ rfl (Can.empty _ _ _ _ _) _ xs.length _ (xs.flatMap (aB).cells) rfl ((aB).length _) (Row.alloc HR.out _) ((aB).rI _) (by rw[Nat.zero_add];exact hby) (by simp) ?_;intro a' c' w3 fc _ hb3 hown);go_returns;rw[Nat.zero_add,List.nil_append]at fc hown;have cE:cg w.heap.size none a':=by
   by_cases h0:0< xs.length
   ·exact cg.own (hown.1 h0) n_
   ·rw[(hown.2 o_).1];intro b o s hb;simp at hb;exact .inl o_
  have hblt:∀b o s,a'=some ⟨b,o,s⟩→b< w3.heap.size:=fun b o s hab=>by
   by_cases h0:0< xs.length
   ·exact((hown.1 h0).lt b (by rw[hab];rfl)).2
   ·have h1:=hb3.size;rw[(hown.2 o_).1]at hab;simp at hab h1;omega
  exact⟨a',c',rfl,cE,fc,fun h=>hown.1 h,hblt,(b_.alloc n_ _).trans hb3⟩
def CE(w:World)(xs:List bR)(e:Ending)(w':World):Prop:=
 ∃a c,e= .returned (.slice a xs.length c)∧cg w.heap.size none a∧Can w' w.heap.size 66 (ay).size a xs.length c (xs.flatMap (ay).cells)∧
  (0<xs.length→ w'.ownsRow w.heap.size 66 (ay).size (.slice a xs.length c) xs.length (xs.flatMap (ay).cells))∧(∀b o s,a=some ⟨b,o,s⟩→b< w'.heap.size)∧Below w.heap.size w w'
theorem NI(xs:List bR)(a:Option Addr)(n c:Nat)(w:World)(hn:xs.length= n)(hby:n* (ay).bytes≤140737488355328)(hm:n≤ maxLen)(hc:a= none→c= 0)(hnc:n≤ c)(hr:bF ay w a xs):
 Calls Tryz.prog 101 #[.slice a n c] w (CE w xs):=by
 subst hn;cases a with
 |none=>
  obtain rfl:=hc rfl;have h0:xs.length= 0:=o_;obtain rfl:xs= []:=List.eq_nil_of_length_eq_zero h0;go_enter Tryz.func101,Tryz.ntmps101;have hnil:=Lib.run_eql_slice_nil (P:=Tryz.prog) w 25 66 none 0 0 0 0 Tryz.underlying25;go_wp2;go_returns;exact⟨none,0,rfl,cg.nil _ _,Can.nil _ _ _ _,fun h=>absurd h (by simp),fun _ _ _ h=>(by cases h),Below.refl _ _⟩
 |some x=>
  have HR:=h_ hr;clear hr;go_enter Tryz.func101,Tryz.ntmps101;have hnil:=Lib.run_eql_slice_nil (P:=Tryz.prog) w 25 66 (some x) xs.length c 0 0 Tryz.underlying25;go_wp2_with(at_builtin;refine dU ((ay).elem Tryz.underlying25) rfl _ _ rfl w.heap.size _ 0 _ _ rfl (Can.empty _ _ _ _ _) _ xs.length _ (xs.flatMap (ay).cells) rfl ((ay).length _) (Row.alloc HR.out _) ((ay).rI _) (by rw[Nat.zero_add];exact hby) (by simp) ?_;intro a' c' w3 fc _ hb3 hown);go_returns;rw[Nat.zero_add,List.nil_append]at fc hown;have cE:cg w.heap.size none a':=by
   by_cases h0:0< xs.length
   ·exact cg.own (hown.1 h0) n_
   ·rw[(hown.2 o_).1];intro b o s hb;simp at hb;exact .inl o_
  have hblt:∀b o s,a'=some ⟨b,o,s⟩→b< w3.heap.size:=fun b o s hab=>by
   by_cases h0:0< xs.length
   ·exact((hown.1 h0).lt b (by rw[hab];rfl)).2
   ·have h1:=hb3.size;rw[(hown.2 o_).1]at hab;simp at hab h1;omega
  exact⟨a',c',rfl,cE,fc,fun h=>hown.1 h,hblt,(b_.alloc n_ _).trans hb3⟩
theorem uH{T G:Prop}(k:Hid T→G)(h:T):G:= k h
def E5(w:World)(s:St)(e:Ending)(w':World):Prop:= ∃r,e= .returned (Raw.agg r)∧mN w' w.heap.size r s∧Ap r.eY.a r.ft.a∧Below w.heap.size w w'
theorem KW{w W1 w2 w3 w4 w5 w6 w7 w8:World}{term ag next:Int}{ts:List aj}{ls:List aV}{ss:List aD}{ds:List bR}{x1 x2 x3 x4:Option Addr}{y1 y2 y3 y4:Nat}(K1:cg W1.heap.size none x1∧Can w2 W1.heap.size 75 aT.size x1 ts.length y1 (ts.flatMap aT.cells)∧(0<ts.length→ w2.ownsRow W1.heap.size 75 aT.size (.slice x1 ts.length y1) ts.length (ts.flatMap aT.cells))∧∀b o s,x1=some ⟨b,o,s⟩→b< w2.heap.size)(K2:cg w2.heap.size none x2∧Can w3 w2.heap.size 59 aJ.size x2 ls.length y2 (ls.flatMap aJ.cells)∧(0<ls.length→ w3.ownsRow w2.heap.size 59 aJ.size (.slice x2 ls.length y2) ls.length (ls.flatMap aJ.cells))∧∀b o s,x2=some ⟨b,o,s⟩→b< w3.heap.size)(K3:cg w4.drew.heap.size none x3∧Can w5 w4.drew.heap.size 92 aB.size x3 ss.length y3 (ss.flatMap aB.cells)∧(0<ss.length→ w5.ownsRow w4.drew.heap.size 92 aB.size (.slice x3 ss.length y3) ss.length (ss.flatMap aB.cells))∧∀b o s,x3=some ⟨b,o,s⟩→b< w5.heap.size)(K4:cg w5.heap.size none x4∧Can w6 w5.heap.size 66 ay.size x4 ds.length y4 (ds.flatMap ay.cells)∧(0<ds.length→ w6.ownsRow w5.heap.size 66 ay.size (.slice x4 ds.length y4) ds.length (ds.flatMap ay.cells))∧∀b o s,x4=some ⟨b,o,s⟩→b< w6.heap.size)(hW:w.heap.size+ 2≤W1.heap.size)(XS:Below W1.heap.size W1 w2)(XU:Below w2.heap.size w2 w3)(M4:cx (w.heap.size+1) w3.heap.size w3 w4)(Wj:Below w4.drew.heap.size w4.drew w5)(XW:Below w5.heap.size w5 w6)(M7:cx (w.heap.size+1) w6.heap.size w6 w7)(Ri:∀k,k≠w.heap.size+ 1→w8.heap[k]? =w7.heap[k]?)(OB:w8.heap.size= w7.heap.size)(hb:Below w.heap.size w w8):
 E5 w ⟨term,ag,next,ts,ls,ss,ds⟩ (.returned (.agg (aw term ag next x1 ts.length y1 x2 ls.length y2 x3 ss.length y3 x4 ds.length y4))) w8:=by
 have s12:=XS.size;have s23:=XU.size;have s34:=M4.size;have s45:w4.heap.size≤ w5.heap.size:=Wj.size;have s56:=XW.size;have s67:=M7.size;have d4:w4.drew.heap.size= w4.heap.size:=rfl;have m78:∀E,cx (w.heap.size+2) E w7 w8:=fun E=>(cx.refl _ _ _).other Ri OB (.inl o_)
 have Wy:∀E,E≤w6.heap.size→ cx (w.heap.size+2) E w6 w8:=fun E hE=>(⟨M7.size,fun k h1 h2=>M7.bY k o_ o_⟩:cx (w.heap.size+2) E w6 w7).trans (m78 E)
 have Gk:∀E,E≤w5.heap.size→ cx (w.heap.size+2) E w5 w8:=fun E hE=>(cx.below XW hE).trans (Wy E o_)
 have m48:∀E,E≤w4.heap.size→ cx (w.heap.size+2) E w4 w8:=fun E hE=>(⟨Wj.size,fun k _ h2=>Wj.block k o_⟩:cx (w.heap.size+2) E w4 w5).trans (Gk E o_)
 have Vh:∀E,E≤w3.heap.size→ cx (w.heap.size+2) E w3 w8:=fun E hE=>(⟨M4.size,fun k h1 h2=>M4.bY k o_ o_⟩:cx (w.heap.size+2) E w3 w4).trans (m48 E o_)
 have m28:∀E,E≤w2.heap.size→ cx (w.heap.size+2) E w2 w8:=fun E hE=>(cx.below XU hE).trans (Vh E o_)
 have S1:=(cK.kK (L:=aT) d_ K1.1 K1.2.1).eH (m28 _ n_) hW n_;have S2:=(cK.kK (L:=aJ) d_ K2.1 K2.2.1).eH (Vh _ n_) o_ n_;have S3:=(cK.kK (L:=aB) d_ K3.1 K3.2.1).eH (Gk _ n_) o_ n_;have S4:=(cK.kK (L:=ay) d_ K4.1 K4.2.1).eH (Wy _ n_) o_ n_;have O1:=((⟨K1.2.1,K1.2.2.1⟩:fQ aT w2 W1.heap.size ⟨x1,ts.length,y1⟩ ts).eH K1.1 (m28 _ n_) hW n_).base (B0:=w.heap.size) o_;have O2:=((⟨K2.2.1,K2.2.2.1⟩:fQ aJ w3 w2.heap.size ⟨x2,ls.length,y2⟩ ls).eH K2.1 (Vh _ n_) o_ n_).base (B0:=w.heap.size) o_;have O4:=((⟨K4.2.1,K4.2.2.1⟩:fQ ay w6 w5.heap.size ⟨x4,ds.length,y4⟩ ds).eH K4.1 (Wy _ n_) o_ n_).base (B0:=w.heap.size) o_;refine⟨⟨term,ag,next,⟨x1,ts.length,y1⟩,⟨x2,ls.length,y2⟩,⟨x3,ss.length,y3⟩,⟨x4,ds.length,y4⟩⟩,rfl,⟨⟨rfl,rfl,rfl,S1.mono o_,S2.mono o_,S3.mono o_,⟨S4.mono o_,fun _=>O4,fun _ x o q e=>by have h1:=K4.2.2.2 x o q e;have h2:=(Wy 0 o_).size;omega⟩⟩,O1,O2,Ap.of K1.2.2.2 K2.1 n_,Ap.of K1.2.2.2 K3.1 o_,Ap.of K1.2.2.2 K4.1 o_,Ap.of K2.2.2.2 K3.1 o_,Ap.of K2.2.2.2 K4.1 o_,fun x o q e=>by have h1:=K2.2.2.2 x o q e;have h2:=(Vh 0 o_).size;omega⟩,Ap.of K3.2.2.2 K4.1 o_,hb⟩
theorem tQ(s:St)(r:Raw)(B:Nat)(w:World)(h:aX w B r s)(cC:s.ax.length≤ 900)(hl2:s.ai.length≤ 900)(cS:s.cd.length≤ 900)(hl4:s.aP.length≤ 900):
 Calls Tryz.prog 57 #[r.agg] w (E5 w s):=by
 obtain⟨term,ag,next,⟨a1,n1,c1⟩,⟨a2,n2,c2⟩,⟨a3,n3,c3⟩,⟨a4,n4,c4⟩⟩:=r;obtain⟨ml,jA,nx,ts,ls,ss,ds⟩:=s;have hq1:=h.term;have hq2:=h.ag;have Hf:=h.next;have H1:=h_ h.cD;have H2:=h_ h.cG;have H3:=h_ h.eY;have H4:=h_ h.ft;simp only at hq1 hq2 Hf cC hl2 cS hl4;subst hq1;subst hq2;subst Hf;clear h;have hb1:=h_ (show n1*aT.bytes≤ 140737488355328 by have:=H1.len;show n1*40≤ _;simp only at this;omega);have hb2:=h_ (show n2*aJ.bytes≤ 140737488355328 by have:=H2.len;show n2*56≤ _;simp only at this;omega);have hb3:=h_ (show n3*aB.bytes≤ 140737488355328 by have:=H3.len;show n3*56≤ _;simp only at this;omega);have hb4:=h_ (show n4*ay.bytes≤ 140737488355328 by have:=H4.len;show n4*64≤ _;simp only at this;omega);have IW:=h_ (show n1≤maxLen from bD (by have:=H1.len;simp only at this;omega));have hm2:=h_ (show n2≤maxLen from bD (by have:=H2.len;simp only at this;omega));have IX:=h_ (show n3≤maxLen from bD (by have:=H3.len;simp only at this;omega));have ER:=h_ (show n4≤maxLen from bD (by have:=H4.len;simp only at this;omega));have C1:=h_ (fun w' (hb:Below w.heap.size w w')=>NK ts a1 n1 c1 w' H1.len hb1.out IW.out H1.nil H1.le (H1.row.below hb));have C2:=h_ (fun w' (hb:Below w.heap.size w w')=>NJ ls a2 n2 c2 w' H2.len hb2.out hm2.out H2.nil H2.le (H2.row.below hb));have C3:=h_ (fun w' (hb:Below w.heap.size w w')=>zI ss a3 n3 c3 w' H3.len hb3.out IX.out H3.nil H3.le (H3.row.below hb));have C4:=h_ (fun w' (hb:Below w.heap.size w w')=>NI ds a4 n4 c4 w' H4.len hb4.out ER.out H4.nil H4.le (H4.row.below hb));clear cC hl2 cS hl4;go_enter Tryz.func57,Tryz.ntmps57;go_wp2
 have cT:Hid (∀w',Below ((w.alloc (.cells (aw term ag next a1 n1 c1 a2 n2 c2 a3 n3 c3 a4 n4 c4) 27)).alloc (.cells aS 27)).heap.size ((w.alloc (.cells (aw term ag next a1 n1 c1 a2 n2 c2 a3 n3 c3 a4 n4 c4) 27)).alloc (.cells aS 27)) w'→
  aU w' w.heap.size (Raw.cells ⟨term,ag,next,⟨a1,n1,c1⟩,⟨a2,n2,c2⟩,⟨a3,n3,c3⟩,⟨a4,n4,c4⟩⟩)∧aU w' (w.heap.size+1) (Raw.cells ⟨0,0,0,⟨none,0,0⟩,⟨none,0,0⟩,⟨none,0,0⟩,⟨none,0,0⟩⟩)):=fun w' hb=>⟨aU.aR (ah hb),aU.cn hb⟩
 apply uH
 ·intro MG;go_region_law (first|(go_simp;go_at_call 98;((with_reducible refine(C1.out _ aH).mono ?_);rintro e w2 ⟨x1,y1,rfl,Ow,S0,hown1,Rl,IL⟩;have K1:=h_ (And.intro Ow (And.intro S0 (And.intro hown1 Rl)));clear Ow S0 hown1 Rl;have Bk:=h_ (cT w2 aH);obtain⟨⟨k0,k1,k2,k3,k4,k5,k6⟩,⟨z0,z1,z2,z3,z4,z5,z6⟩,zz⟩:=Bk.1.st;simp only at k0 k1 k2 k3 k4 k5 k6))|(go_simp;go_at_call 99;((with_reducible refine(C2.out _ aH).mono ?_);rintro e w3 ⟨x2,y2,rfl,pR,fG,hown2,BO,FE⟩;have K2:=h_ (And.intro pR (And.intro fG (And.intro hown2 BO)));clear pR fG hown2 BO;clear k0 k1 k2 k3 k4 k5 k6 z0 z1 z2 z3 z4 z5 z6 zz;have jx:=h_ (cT w3 aH);obtain⟨⟨k0,k1,k2,k3,k4,k5,k6⟩,⟨z0,z1,z2,z3,z4,z5,z6⟩,zz⟩:=jx.1.st;simp only at k0 k1 k2 k3 k4 k5 k6)))
  all_goals
   obtain⟨w4,hw4⟩:∃x,x=(w3.setCell ⟨w.heap.size,3,none⟩ (.slice x1 ts.length y1)).setCell ⟨w.heap.size,4,none⟩ (.slice x2 ls.length y2):=⟨_,rfl⟩;rw[←hw4];have B4:=h_ (show aU w4 w.heap.size (Raw.cells ⟨term,ag,next,⟨x1,ts.length,y1⟩,⟨x2,ls.length,y2⟩,⟨a3,n3,c3⟩,⟨a4,n4,c4⟩⟩) by rw[hw4];exact(jx.1.set (i:=3) (by simp) _).set (i:=4) (by simp) _);have Z4:=h_ (show aU w4 (w.heap.size+1) (Raw.cells ⟨0,0,0,⟨none,0,0⟩,⟨none,0,0⟩,⟨none,0,0⟩,⟨none,0,0⟩⟩) by rw[hw4];exact(jx.2.lY (by simp) _).lY (by simp) _);have M4:=h_ (show cx (w.heap.size+1) w3.heap.size w3 w4 by rw[hw4];exact((cx.refl _ _ _).setCell _ _ (.inl (by simp))).setCell _ _ (.inl (by simp)));have SV:Below w.heap.size w3 w4:=by rw[hw4];exact((Below.refl w.heap.size w3).setCell (p:=⟨w.heap.size,3,none⟩) (Nat.le_refl w.heap.size) _).setCell (p:=⟨w.heap.size,4,none⟩) (Nat.le_refl w.heap.size) _
   have b4:Below w.heap.size w w4:=Below.trans (show Below w.heap.size w w3 from aH) SV;clear hw4 k0 k1 k2 k3 k4 k5 k6 z0 z1 z2 z3 z4 z5 z6 zz;revert b4;revert M4;revert Z4;revert B4;revert K2;revert FE;revert K1;revert IL;revert y2;revert x2;revert y1;revert x1;clear Bk jx SV;revert w4;revert w3;revert w2;exact MG.out
 intro w2 w3 w4 x1 y1 x2 y2 IL K1 FE K2 B4 Z4 M4 b4;obtain⟨⟨k0,k1,k2,k3,k4,k5,k6⟩,⟨z0,z1,z2,z3,z4,z5,z6⟩,zz⟩:=B4.out.st;simp only at k0 k1 k2 k3 k4 k5 k6;go_wp2;apply uH
 ·intro aaq;go_region_law (first|(go_simp;go_at_call 100;((with_reducible refine(C3.out _ aH).mono ?_);rintro e w5 ⟨x3,y3,rfl,D4,fc,kV,IV,BM⟩;have K3:=h_ (And.intro D4 (And.intro fc (And.intro kV IV)));clear D4 fc kV IV;have B5:=h_ (B4.out.drew.next (by simp) BM);have Z5:=h_ (Z4.out.drew.next (by simp) BM);obtain⟨⟨kp0,kp1,kp2,kp3,kp4,kp5,kp6⟩,⟨zp0,zp1,zp2,zp3,zp4,zp5,zp6⟩,zzp⟩:=B5.out.st;simp only at kp0 kp1 kp2 kp3 kp4 kp5 kp6))|(go_simp;go_at_call 101;((with_reducible refine(C4.out _ aH).mono ?_);rintro e w6 ⟨x4,y4,rfl,zW,qo,eG,Yn,BN⟩;have K4:=h_ (And.intro zW (And.intro qo (And.intro eG Yn)));clear zW qo eG Yn;clear kp0 zp0 kp1 zp1 kp2 zp2 kp3 zp3 kp4 zp4 kp5 zp5 kp6 zp6 zzp;have B6:=h_ (B5.out.next (by simp) BN);have Z6:=h_ (Z5.out.next (by simp) BN);obtain⟨⟨kq0,kq1,kq2,kq3,kq4,kq5,kq6⟩,⟨zq0,zq1,zq2,zq3,zq4,zq5,zq6⟩,zzq⟩:=B6.out.st;simp only at kq0 kq1 kq2 kq3 kq4 kq5 kq6)))
  all_goals
   obtain⟨w7,eO⟩:∃x,x=(w6.setCell ⟨w.heap.size,5,none⟩ (.slice x3 ss.length y3)).setCell ⟨w.heap.size,6,none⟩ (.slice x4 ds.length y4):=⟨_,rfl⟩;rw[←eO];have B7:=h_ (show aU w7 w.heap.size (Raw.cells ⟨term,ag,next,⟨x1,ts.length,y1⟩,⟨x2,ls.length,y2⟩,⟨x3,ss.length,y3⟩,⟨x4,ds.length,y4⟩⟩) by rw[eO];exact(B6.out.set (i:=5) (by simp) _).set (i:=6) (by simp) _);have Z7:=h_ (show aU w7 (w.heap.size+1) (Raw.cells ⟨0,0,0,⟨none,0,0⟩,⟨none,0,0⟩,⟨none,0,0⟩,⟨none,0,0⟩⟩) by rw[eO];exact(Z6.out.lY (by simp) _).lY (by simp) _);have M7:=h_ (show cx (w.heap.size+1) w6.heap.size w6 w7 by rw[eO];exact((cx.refl _ _ _).setCell _ _ (.inl (by simp))).setCell _ _ (.inl (by simp)));have b67:Below w.heap.size w6 w7:=by rw[eO];exact((Below.refl w.heap.size w6).setCell (p:=⟨w.heap.size,5,none⟩) (Nat.le_refl w.heap.size) _).setCell (p:=⟨w.heap.size,6,none⟩) (Nat.le_refl w.heap.size) _
   have b7:Below w.heap.size w w7:=Below.trans (show Below w.heap.size w w6 from aH) b67;clear eO kq0 zq0 kq1 zq1 kq2 zq2 kq3 zq3 kq4 zq4 kq5 zq5 kq6 zq6 zzq;revert b7;revert M7;revert Z7;revert B7;revert K4;revert BN;revert K3;revert BM;revert y4;revert x4;revert y3;revert x3;clear B5 Z5 B6 Z6 b67;revert w7;revert w6;revert w5;exact aaq.out
 clear k0 k1 k2 k3 k4 k5 k6 z0 z1 z2 z3 z4 z5 z6 zz;intro w5 w6 w7 x3 y3 x4 y4 BM K3 BN K4 B7 Z7 M7 b7;go_wp2_with(first|(refine aa aG rfl (.tmp 1) rfl w.heap.size 0 rfl ⟨term,ag,next,⟨x1,ts.length,y1⟩,⟨x2,ls.length,y2⟩,⟨x3,ss.length,y3⟩,⟨x4,ds.length,y4⟩⟩ (.agg (aw term ag next x1 ts.length y1 x2 ls.length y2 x3 ss.length y3 x4 ds.length y4)) rfl B7.out.range ?_)|(refine nM aG rfl (.tmp 2) (.tmp 19) rfl (w.heap.size+1) 0 ⟨term,ag,next,⟨x1,ts.length,y1⟩,⟨x2,ls.length,y2⟩,⟨x3,ss.length,y3⟩,⟨x4,ds.length,y4⟩⟩ rfl rfl Z7.out.there ?_;intro w8 Qn ht8 jn OB Ri));obtain⟨c0,c1,c2,c3,c4,c5,c6⟩:=bP Qn;refine bodyPost_ret (v:= .agg (aw term ag next x1 ts.length y1 x2 ls.length y2 x3 ss.length y3 x4 ds.length y4)) (by simp[results,Tryz.results57,go_sem,c0,c1,c2,c3,c4,c5,c6]) rfl ?_;exact KW K1.out K2.out K3.out K4.out (by simp) IL FE M4.out BM BN M7.out Ri OB (b7.trans (jn w.heap.size (Nat.le_succ _)))
theorem jq(s:St)(r:Raw)(B:Nat)(w:World)(h:aX w B r s)(cC:s.ax.length≤ 900)(hl2:s.ai.length≤ 900)(cS:s.cd.length≤ 900)(hl4:s.aP.length≤ 900):
 Calls Tryz.prog 57 #[r.agg] w (Dz w s):=(tQ s r B w h cC hl2 cS hl4).mono fun e w' h=>by
 obtain⟨q,h1,h2,_,h3⟩:=h;exact⟨q,h1,h2,h3⟩
def zx(g:Nat)(w:World)(a:Option Addr)(c:Nat)(xs:List aV)(e:Ending)(w':World):Prop:=
 e= .returned (.slice a xs.length c)∧bF aJ w' a xs∧dF g w w'
theorem BI(xs:List aV)(B g n c:Nat)(cM:FuncId)(cap:Array Value)(p:aV→ Bool)(w:World)(hn:xs.length= n)(hnc:n≤ c)(hl:c≤ maxLen)(hm:dM aJ w B g 0 xs)(hB:B≤ w.heap.size)(qp:∀(args:Array Value) (w:World),(callFunc cM args).run Tryz.prog w= .ok (.enter cM args) w)(hf:∀x∈ xs,∀w',dF g w w'→Calls Tryz.prog cM (#[(aJ).val x]++cap) w' fun e w''=>e= .returned (.bool (p x))∧Below w'.heap.size w' w''):
 Calls Tryz.prog 129 #[.slice (some ⟨g,0,none⟩) n c,.func (.func cM) #[] cap] w (zx g w (some ⟨g,0,none⟩) c (xs.filter fun x=> !p x)):=by
 subst hn;have hl2:=cX hl;have hlm:xs.length≤ maxLen:=Nat.le_trans hnc hl;have HF:=h_ hf;clear hf;have Kp:=h_ (pS xs (some ⟨g,0,none⟩) xs.length c cM cap p w rfl hlm hm.row qp (fun x hx w' hb=>HF.out x hx w' (.of hb)));have HM:=h_ hm;rcases oW p xs with⟨h1,h2⟩|⟨k,hk,h1,h2,h3⟩
 ·have HI:=h_ h1;have HO:Hid ((xs.filter fun x=> !p x)=xs):=List.filter_eq_self.2 fun x hx=>by rw[h2 x hx];rfl
  clear h1 h2 hm;generalize(xs.filter fun x=> !p x)=res at HO ⊢;go_enter Tryz.func129,Tryz.ntmps129;go_wp2_with(go_at_call 168;((with_reducible refine Kp.out.mono ?_);rw[HI.out];rintro e w2 ⟨rfl,hb⟩));go_returns;obtain rfl:=HO.out;exact⟨rfl,Row.below HM.row hb,.of hb⟩
 ·have HI:=h_ h1;have HS:=h_ (Fl (q:=fun x=> !p x) hk (by simp[h2]) (fun j h hj=>by simp[h3 j h hj]));have Bj:Hid (∀(us:List aV) (i:Nat),i≤us.length→ us.take i=xs.filter (fun x=> !p x)→(xs.filter fun x=> !p x).length=i):=fun us i hi h=>by rw[←h,List.length_take];omega
  have W9:Hid (∀(us:List aV) (i:Nat),us.take i=(xs.take xs.length).filter (fun x=> !p x)→us.take i=xs.filter (fun x=> !p x)):=fun us i h=>by rw[h,List.take_length]
  clear h1 h2 h3 hm;have hz:=HM.lt (by intro h;rw[h]at hk;simp at hk);generalize hres:(xs.filter fun x=> !p x)=res at Bj W9 ⊢;have T4:=h_ hres;clear hres;have hk1:((k:Int)== -1)=false:= by rw[beq_eq_false_iff_ne];omega
  go_enter Tryz.func129,Tryz.ntmps129;go_wp2_with(go_at_call 168;((with_reducible refine Kp.out.mono ?_);rw[HI.out];rintro e w2 ⟨rfl,hb⟩));go_loopw [5,6] (fun si sj wr=>∃i j:Nat,∃us: List aV,si= .int .i64 i∧sj= .int .i64 j∧i< j∧j≤ xs.length∧Hid (us.length=xs.length)∧Hid (us.take i=(xs.take j).filter (fun x=> !p x))∧Hid (us.drop j=xs.drop j)∧Hid (dM aJ wr B g 0 us)∧dF g w wr) (fun _ sj _=>xs.length- (intOf sj).toNat)
  case atStart=>exact ⟨k,k+1,xs,rfl,by go_num,by omega,by omega,rfl,HS.out,rfl,HM.below hb hz,.of hb⟩
  case round=>
   obtain⟨i,j,us,rfl,rfl,hij,hj,HL,HT,HD,EI,hbr⟩:=hrel;by_cases hlt:j< xs.length
   ·have UY:j< us.length:=by rw[HL.out];exact hlt
    have hiu:i< us.length:=by rw[HL.out];omega
    have Hg:=EI.range UY;have HA:=h_ (SX hlt HL.out HD.out);have hgr:=EI.lt (by intro h;rw[h]at UY;simp at UY);have hBr:B≤ wr.heap.size:=Nat.le_trans EI.base o_;rw[HA.out,Nat.zero_add]at Hg;have hrange:=h_ Hg;clear Hg;have qC:=fun (w':World) (hb:dF g w w')=>HF.out xs[j] (List.getElem_mem hlt) w' hb
    have G7:=h_ qC;clear qC;cases hp:p xs[j]with
    |true=>
     go_wp2_with(first|(refine bQ aJ rfl _ rfl g (j*(aJ).size) rfl _ hrange.out ?_)|(refine aI aJ rfl _ _ rfl xs[j] rfl rfl rfl ?_;intro w3 hw3 _ hb3 hs3;have Nr:=h_ hw3;clear hw3)|(refine bQ aJ rfl _ rfl wr.heap.size 0 rfl _ Nr.out ?_)|(refine(G7 _ (hbr.next hb3)).mono ?_;rw[hp];rintro e w4 ⟨rfl,hb4⟩));go_roundw
     case rel=>exact ⟨i,j+1,us,rfl,by go_num,by omega,by omega,HL.out,(yL hlt HT.out HD.out (by simp[hp])).1,(yL hlt HT.out HD.out (by simp[hp])).2,(EI.below hb3 hgr).below hb4 o_,(hbr.next hb3).next hb4⟩
     case measure=>simp [intOf];omega
    |false=>
     have HK:=h_ (JU hlt HL.out hij HT.out HD.out (by simp[hp]));go_wp2_with(first|(refine bQ aJ rfl _ rfl g (j*(aJ).size) rfl _ hrange.out ?_)|(refine aI aJ rfl _ _ rfl xs[j] rfl rfl rfl ?_;intro w3 hw3 _ hb3 hs3;have Nr:=h_ hw3;clear hw3)|(refine bQ aJ rfl _ rfl wr.heap.size 0 rfl _ Nr.out ?_)|(refine(G7 _ (hbr.next hb3)).mono ?_;rw[hp];rintro e w4 ⟨rfl,hb4⟩;have Nr:=h_ (sX Nr.out hb4 o_))|(refine uq aJ rfl _ _ rfl (o:=0) ((EI.below hb3 hgr).below hb4 o_) i hiu xs[j] (by rw[Nat.zero_add];rfl) rfl ?_;intro w5 FR cv hs5;have Hm:=h_ FR;have kO:=h_ cv;clear FR cv));go_roundw
     case rel=>exact ⟨i+1,j+1,us.set i xs[j],by go_num,by go_num,by omega,by omega,by show _=_;rw[List.length_set];exact HL.out,HK.1,HK.2,Hm.out,((hbr.next hb3).next hb4).trans kO.out⟩
     case measure=>simp [intOf];omega
   ·obtain rfl:j= xs.length:=o_;have HR:=h_ (W9 us i HT.out);have HN:=h_ (Bj us i (by rw[HL.out];omega) HR.out);have hcn:¬c= i:=o_;have hic:i≤ c:=o_;have hin:i≤ xs.length:=o_;go_wp2_with(refine uo aJ Tryz.underlying23 rfl _ rfl (o:=0) EI.out i (by rw[HL.out];omega) (xs.length-i) (c-i) (by rw[HL.out];omega) (by rw[Nat.zero_add];rfl) ?_;intro w5 FR cv hs5;have Hm:=h_ FR;have kO:=h_ cv;clear FR cv);go_returns;have FR:=Hm.out;rw[HR.out]at FR;exact⟨by rw[HN.out];rfl,FR.row,hbr.trans kO.out⟩
theorem wA(a:Option Addr)(c:Nat)(cM:FuncId)(cap:Array Value)(w:World)(qp:∀(args:Array Value) (w:World),(callFunc cM args).run Tryz.prog w= .ok (.enter cM args) w):
 Calls Tryz.prog 129 #[.slice a 0 c,.func (.func cM) #[] cap] w fun e w'=>e= .returned (.slice a 0 c)∧Below w.heap.size w w':=by
 have Kp:=h_ (pS [] a 0 c cM cap (fun _=>false) w rfl (Nat.zero_le _) (.inl rfl) qp (fun x hx=>absurd hx (by simp)));go_enter Tryz.func129,Tryz.ntmps129;go_wp2_with(go_at_call 168;((with_reducible refine Kp.out.mono ?_);rintro e w2 ⟨rfl,hb⟩));go_returns;exact⟨rfl,hb⟩
end Go.Proofs.YtfdmhpohfjbpfaaGreat
