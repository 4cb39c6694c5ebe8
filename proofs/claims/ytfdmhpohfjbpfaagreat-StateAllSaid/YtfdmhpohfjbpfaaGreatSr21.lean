import Derived.Test.YtfdmhpohfjbpfaaGreatSrWirRr
set_option linter.unusedVariables false
set_option linter.unusedSimpArgs false
namespace Go.Proofs.YtfdmhpohfjbpfaaGreat
open Go.ChangeShapes Go.WideShapes Go.ChangeAt Go.RowKit
set_option maxRecDepth 100000
set_option maxHeartbeats 16000000
theorem sQ.mono{α β:Type}{w w':World}{g c:Nat}{a:Option Addr}{bs:List UInt8}{P:List UInt8→Nat→ kQ α}{Q:List UInt8→Nat→ kQ β}{st:Except Nat Nat}{OK:α→ Ending→World→ Prop}{OK':β→ Ending→World→ Prop}{e:Ending}(f:α→ β)(h:sQ w g a c bs P st OK e w')(hl:∀v st',cZ P bs st v st'→cZ Q bs st (f v) st')(ho:∀v,OK v e w'→OK' (f v) e w'):sQ w g a c bs Q st OK' e w':=by
 obtain⟨h1,v,st',h2,h3,h4⟩:=h;exact⟨h1,f v,st',hl v st' h2,h3,ho v h4⟩
theorem Rs.at{w:World}{g c:Nat}{a:Option Addr}{bs:List UInt8}{st:Except Nat Nat}(h:Rs w g a c bs st):∃x y:Int,yf w g a c bs x y∧0≤ x∧x≤ bs.length∧(∀p,st= .ok p→x= p∧y= -1)∧(∀f,st= .error f→x= bs.length∧y= f):=by
 cases st with
 |ok p=>exact ⟨p,-1,h.1,by omega,by have:=h.2;omega,fun q hq=>by cases hq;exact⟨rfl,rfl⟩,fun f hf=>by cases hf⟩
 |error f=>exact ⟨_,_,h,by omega,by omega,fun q hq=>(by cases hq),fun f hf=>by cases hf;exact⟨rfl,rfl⟩⟩
theorem Jy{bs:List UInt8}{st qB:Except Nat Nat}{v:UInt8}{n:Nat}(h:cZ il bs st v qB)(hn:∀p,st= .ok p→(n:Int)=p):cZ jW bs st (v.toNat==1) (if 1<v.toNat then Iq n qB else qB):=by
 cases st with
 |error f=>
  obtain rfl:qB= .error f:=h
  split<;>rfl
 |ok p=>
  have hnp:=hn p rfl;cases hs:il bs p with
  |error f=>
   obtain rfl:qB= .error f:=by unfold cZ at h;simp only[hs]at h;exact h
   have ht:jW bs p= .error f:=by unfold jW;rw[hs];rfl
   split<;>exact cZ.bad _ ht
  |ok y=>
   obtain⟨b,q⟩:=y;unfold cZ at h;simp only[hs]at h;obtain⟨rfl,rfl⟩:=h;have hq:q= p+1:= by
    unfold il qx at hs
    split at hs
    ·cases hs
    ·simp only[cy,Except.ok.injEq,Prod.mk.injEq]at hs;omega
   by_cases hv:1< v.toNat
   ·rw[if_pos hv];refine cZ.bad _ ?_;unfold jW;rw[hs];show(if _ then _ else _)=_
    rw[if_pos hv]
    congr 1;omega
   ·rw[if_neg hv];refine cZ.ok ?_;unfold jW;rw[hs];show(if _ then _ else _)=_
    rw[if_neg hv]
theorem Ig{bs:List UInt8}{st qB:Except Nat Nat}{v:Int}{n size:Nat}(h:cZ fX bs st v qB)(hn:∀p,st= .ok p→(n:Int)=p){at':Nat}(ha:∀q,qB= .ok q→at'= q)(hf:∀f,qB= .error f→at'= bs.length):
 cZ (countP size) bs st (if v<0∨ v>((bs.length-at')/size: Nat)then 0 else v.toNat) (if v<0∨ v>((bs.length-at')/size: Nat)then Iq n qB else qB)∧((∃f,qB= .error f)→(if v<0∨ v>((bs.length-at')/size: Nat)then 0 else v.toNat)=0):=by
 refine⟨?_,fun⟨f,ZV⟩=> ?_⟩
 ·cases st with
  |error f=>
   obtain rfl:qB= .error f:=h
   split<;>rfl
  |ok p=>
   have hnp:=hn p rfl;cases hs:fX bs p with
   |error f=>
    obtain rfl:qB= .error f:=by unfold cZ at h;simp only[hs]at h;exact h
    have ht:countP size bs p= .error f:=by unfold countP;rw[hs];rfl
    split<;>exact cZ.bad _ ht
   |ok y=>
    obtain⟨b,q⟩:=y;unfold cZ at h;simp only[hs]at h;obtain⟨rfl,rfl⟩:=h;have haq:=ha q rfl;subst haq;by_cases hv:v< 0∨v> ((bs.length-at')/size: Nat)
    ·rw[if_pos hv,if_pos hv];refine cZ.bad _ ?_;unfold countP;rw[hs];show(if _ then _ else _)=_
     rw[if_pos hv]
     congr 1;omega
    ·rw[if_neg hv,if_neg hv];refine cZ.ok ?_;unfold countP;rw[hs];show(if _ then _ else _)=_
     rw[if_neg hv]
 ·have:=hf f ZV;rw[this,Nat.sub_self,Nat.zero_div]
  split
  ·rfl
  ·omega
theorem Px(g c:Nat)(a:Option Addr)(bs:List UInt8)(st:Except Nat Nat)(w:World)(hl:bs.length≤ 2000000)(h:Rs w g a c bs st):
 Calls Tryz.prog 35 #[.pointer (some ⟨g,0,none⟩)] w (sQ w g a c bs jW st Uv):=by
 obtain⟨x,y,hb,hx0,hx1,hok,her⟩:=h.at;have k1:=hb.box.cell (j:=1) rfl;obtain⟨n,rfl⟩:=Int.eq_ofNat_of_zero_le hx0;have HS:=h_ (GL g c a bs st w hl h);have fT:=h_ (And.intro hok her);clear h hb hok her;go_enter Tryz.func35,Tryz.ntmps35;go_wp2_with(first|(go_at_call 33;((with_reducible refine HS.out.mono ?_);rintro e w1 ⟨ht,v,qB,hk,hs,rfl⟩;have HT:=h_ ht;have HK:=h_ hk;have HR:=h_ hs;have HF:=h_ (yN g c a bs qB n w1 hs);clear ht hk hs))|(go_at_call 74;((with_reducible refine HF.out.mono ?_);rintro e w2 ⟨rfl,ht2,hs2⟩;have Xy:=h_ ht2;have oq:=h_ hs2;clear ht2 hs2)))
 all_goals
  rw[J7];go_ret;have hlk:=Jy HK.out (fun p hp=>(fT.1 p hp).1)
 ·rw[if_pos o_]at hlk;exact⟨HT.next Xy.out,_,_,hlk,oq.out,rfl⟩
 ·rw[if_neg o_]at hlk;exact⟨HT.out,_,_,hlk,HR.out,rfl⟩
def SN(w:World)(g:Nat)(a:Option Addr)(c:Nat)(bs:List UInt8)(size:Nat)(st:Except Nat Nat)(e:Ending)(w':World):Prop:=
 dO g g w w'∧∃(v:Nat) (st':Except Nat Nat),cZ (countP size) bs st v st'∧Rs w' g a c bs st'∧e= .returned (.int .i64 v)∧((∃f,st'= .error f)→v= 0)
theorem Zg {P:Prop}(h:P:=by
 go_quiet (fail);go_wp2_with(go_at_call 74;((with_reducible refine(HF.out _ (HQ.out _)).mono ?_);rintro e w2 ⟨rfl,ht2,hs2⟩;have Xy:=h_ ht2;have oq:=h_ hs2;clear ht2 hs2));go_ret
 exact⟨(HT.next (dO.below (HQ _))).next Xy.out,0,_,Mw.1,oq.out,rfl,fun _=>rfl⟩):P:=h
theorem NM(g c size:Nat)(a:Option Addr)(bs:List UInt8)(st:Except Nat Nat)(w:World)(hl:bs.length≤ 2000000)(h:Rs w g a c bs st)(hs0:0< size)(hs1:size≤ 1000):
 Calls Tryz.prog 36 #[.pointer (some ⟨g,0,none⟩),.int .i64 size] w (SN w g a c bs size st):=by
 obtain⟨x,y,hb,hx0,hx1,hok,her⟩:=h.at;have k1:=hb.box.cell (j:=1) rfl;obtain⟨n,rfl⟩:=Int.eq_ofNat_of_zero_le hx0;have HS:=h_ (wP g c a bs st w hl h);have fT:=h_ (And.intro hok her);clear h hb hok her;go_enter Tryz.func36,Tryz.ntmps36;go_upto_region 3 with(go_at_call 34;((with_reducible refine HS.out.mono ?_);rintro e w1 ⟨ht,v,qB,hk,hs,rfl⟩;have HT:=h_ ht;have HK:=h_ hk;have HR:=h_ hs;obtain⟨x1,y1,hb1,Rq,af6,Yw,Yf⟩:=hs.at;have r0:=hb1.box.cell (j:=0) rfl;have r1:=hb1.box.cell (j:=1) rfl;have Xl:=h_ (And.intro Yw Yf);clear ht hk hs hb1 Yw Yf));obtain⟨m,rfl⟩:=Int.eq_ofNat_of_zero_le Rq;have Mw:=h_ (Ig (size:=size) HK.out (fun p hp=>(fT.1 p hp).1) (at':=m) (fun q hq=>by have:=(Xl.1 q hq).1;omega) (fun f hf=>by have:=(Xl.2 f hf).1;omega));have HF:=h_ (fun W (hW:Below w1.heap.size w1 W)=>yN g c a bs qB n W (HR.below hW));have HQ:=h_ (fun k=>(below_drewN (Below.refl w1.heap.size w1) k));have e1:IntKind.i64.wrap ((bs.length:Int)-m)=((bs.length-m: Nat):Int):=by rw[IntWalk.i64_in _ o_];omega
 have e2:wrap64 (((bs.length-m: Nat):Int)/(size:Int))=(((bs.length-m)/size: Nat):Int):=by
  have h2:(bs.length-m)/size≤ bs.length-m:= Nat.div_le_self _ _;have h1:(((bs.length-m: Nat):Int))/(size:Int)=(((bs.length-m)/size: Nat):Int):=rfl;rw[h1];generalize(bs.length-m)/size= u at h2;unfold wrap64;omega
 have e3:((size:Int)==0)=false:= by simp;omega
 have aeB:True:= trivial;by_cases hneg:v< 0
 ·have hd:decide (v<0)=true:= decide_eq_true hneg;clear e1 e2 e3;rw[if_pos (.inl hneg),if_pos (.inl hneg)]at Mw;exact Zg
 ·have hd:decide (v<0)=false:= decide_eq_false hneg;generalize hD:(bs.length-m)/size= D at e2 Mw;clear hD;by_cases hgt:(D:Int)<v
  ·have hd2:decide ((D:Int)<v)=true:= decide_eq_true hgt;rw[if_pos (.inr hgt),if_pos (.inr hgt)]at Mw;exact Zg
  ·have hd2:decide ((D:Int)<v)=false:= decide_eq_false hgt;have hno:¬(v<0∨ v>(D:Int)):=o_;rw[if_neg hno,if_neg hno]at Mw;go_quiet (fail);go_wp2_with(fail);go_ret;refine⟨HT.next (dO.below (HQ _)),v.toNat,_,Mw.1,HR.below (HQ _),?_,Mw.2⟩;rw[Int.toNat_of_nonneg o_];rfl
end Go.Proofs.YtfdmhpohfjbpfaaGreat
