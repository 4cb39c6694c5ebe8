import Derived.Test.YtfdmhpohfjbpfaaGreatSqWirRr
set_option linter.unusedVariables false
set_option linter.unusedSimpArgs false
namespace Go.Proofs.YtfdmhpohfjbpfaaGreat
open Go.ChangeShapes Go.WideShapes Go.ChangeAt Go.RowKit
set_option maxRecDepth 100000
theorem RetRf.mono {α β:Type} {w w':World} {g c:Nat} {a:Option Addr} {bs:List UInt8} {P:List UInt8→Nat→ Got α} {Q:List UInt8→Nat→ Got β} {st:Except Nat Nat} {OK:α→ Ending→World→ Prop} {OK':β→ Ending→World→ Prop} {e:Ending} (f:α→ β) (h:RetRf w g a c bs P st OK e w')
 (hl:∀v st',Link P bs st v st'→Link Q bs st (f v) st') (ho:∀v,OK v e w'→OK' (f v) e w'):RetRf w g a c bs Q st OK' e w':=by
 obtain⟨h1,v,st',h2,h3,h4⟩:=h
 exact⟨h1,f v,st',hl v st' h2,h3,ho v h4⟩
theorem Rs.at {w:World} {g c:Nat} {a:Option Addr} {bs:List UInt8} {st:Except Nat Nat} (h:Rs w g a c bs st):∃x y:Int,Rd0 w g a c bs x y∧0≤ x∧x≤ bs.length∧(∀p,st= .ok p→x= p∧y= -1)∧(∀f,st= .error f→x= bs.length∧y= f):=by
 cases st with
 |ok p=>exact ⟨p,-1,h.1,by omega,by have:=h.2;omega,fun q hq=>by cases hq;exact⟨rfl,rfl⟩,fun f hf=>by cases hf⟩
 |error f=>exact ⟨_,_,h,by omega,by omega,fun q hq=>(by cases hq),fun f hf=>by cases hf;exact⟨rfl,rfl⟩⟩
theorem truth_link {bs:List UInt8} {st st1:Except Nat Nat} {v:UInt8} {n:Nat} (h:Link smallP bs st v st1) (hn:∀p,st= .ok p→(n:Int)=p):Link truthP bs st (v.toNat==1) (if 1<v.toNat then failSt n st1 else st1):=by
 cases st with
 |error f=>
  obtain rfl:st1= .error f:=h
  split<;>rfl
 |ok p=>
  have hnp:=hn p rfl
  cases hs:smallP bs p with
  |error f=>
   obtain rfl:st1= .error f:=by unfold Link at h;simp only[hs]at h;exact h
   have ht:truthP bs p= .error f:=by unfold truthP;rw[hs];rfl
   split<;>exact Link.bad _ ht
  |ok y=>
   obtain⟨b,q⟩:=y
   unfold Link at h
   simp only[hs]at h
   obtain⟨rfl,rfl⟩:=h
   have hq:q= p+1:= by
    unfold smallP needP at hs
    split at hs
    ·cases hs
    ·simp only[bindP,Except.ok.injEq,Prod.mk.injEq]at hs;omega
   by_cases hv:1< v.toNat
   ·rw[if_pos hv]
    refine Link.bad _ ?_
    unfold truthP;rw[hs]
    show(if _ then _ else _)=_
    rw[if_pos hv]
    congr 1;omega
   ·rw[if_neg hv]
    refine Link.ok ?_
    unfold truthP;rw[hs]
    show(if _ then _ else _)=_
    rw[if_neg hv]
theorem count_link {bs:List UInt8} {st st1:Except Nat Nat} {v:Int} {n size:Nat} (h:Link numP bs st v st1) (hn:∀p,st= .ok p→(n:Int)=p) {at':Nat} (ha:∀q,st1= .ok q→at'= q) (hf:∀f,st1= .error f→at'= bs.length):
 Link (countP size) bs st (if v<0∨ v>((bs.length-at')/size: Nat)then 0 else v.toNat) (if v<0∨ v>((bs.length-at')/size: Nat)then failSt n st1 else st1)∧((∃f,st1= .error f)→(if v<0∨ v>((bs.length-at')/size: Nat)then 0 else v.toNat)=0):=by
 refine⟨?_,fun⟨f,hf1⟩=> ?_⟩
 ·cases st with
  |error f=>
   obtain rfl:st1= .error f:=h
   split<;>rfl
  |ok p=>
   have hnp:=hn p rfl
   cases hs:numP bs p with
   |error f=>
    obtain rfl:st1= .error f:=by unfold Link at h;simp only[hs]at h;exact h
    have ht:countP size bs p= .error f:=by unfold countP;rw[hs];rfl
    split<;>exact Link.bad _ ht
   |ok y=>
    obtain⟨b,q⟩:=y
    unfold Link at h
    simp only[hs]at h
    obtain⟨rfl,rfl⟩:=h
    have haq:=ha q rfl
    subst haq
    by_cases hv:v< 0∨v> ((bs.length-at')/size: Nat)
    ·rw[if_pos hv,if_pos hv]
     refine Link.bad _ ?_
     unfold countP;rw[hs]
     show(if _ then _ else _)=_
     rw[if_pos hv]
     congr 1;omega
    ·rw[if_neg hv,if_neg hv]
     refine Link.ok ?_
     unfold countP;rw[hs]
     show(if _ then _ else _)=_
     rw[if_neg hv]
 ·have:=hf f hf1
  rw[this,Nat.sub_self,Nat.zero_div]
  split
  ·rfl
  ·omega
set_option maxHeartbeats 1000000 in
theorem truth_rr (g c:Nat) (a:Option Addr) (bs:List UInt8) (st:Except Nat Nat) (w:World) (hl:bs.length≤ 2000000) (h:Rs w g a c bs st):
 Calls Tryz.prog 35 #[.pointer (some ⟨g,0,none⟩)] w (RetRf w g a c bs truthP st TruthE):=by
 obtain⟨x,y,hb,hx0,hx1,hok,her⟩:=h.at
 have k1:=hb.box.cell (j:=1) rfl
 obtain⟨n,rfl⟩:=Int.eq_ofNat_of_zero_le hx0
 have HS:=Lib.hid (small_rr g c a bs st w hl h)
 have HOK:=Lib.hid (And.intro hok her)
 clear h hb hok her
 go_enter Tryz.func35,Tryz.ntmps35
 go_wp2_with(first|(go_at_call 33;((with_reducible refine HS.out.mono ?_);rintro e w1 ⟨ht,v,st1,hk,hs,rfl⟩;have HT:=Lib.hid ht;have HK:=Lib.hid hk;have HR:=Lib.hid hs;have HF:=Lib.hid (fails_s g c a bs st1 n w1 hs);clear ht hk hs))|(go_at_call 74;((with_reducible refine HF.out.mono ?_);rintro e w2 ⟨rfl,ht2,hs2⟩;have HT2:=Lib.hid ht2;have HR2:=Lib.hid hs2;clear ht2 hs2)))
 all_goals
  rw[one_nat]
  go_ret
  have hlk:=truth_link HK.out (fun p hp=>(HOK.out.1 p hp).1)
 ·rw[if_pos (by omega)]at hlk
  exact⟨HT.out.next HT2.out,_,_,hlk,HR2.out,rfl⟩
 ·rw[if_neg (by omega)]at hlk
  exact⟨HT.out,_,_,hlk,HR.out,rfl⟩
def RetCt (w:World) (g:Nat) (a:Option Addr) (c:Nat) (bs:List UInt8) (size:Nat) (st:Except Nat Nat) (e:Ending) (w':World):Prop:=
 Turn g g w w'∧∃(v:Nat) (st':Except Nat Nat),Link (countP size) bs st v st'∧Rs w' g a c bs st'∧e= .returned (.int .i64 v)∧((∃f,st'= .error f)→v= 0)
set_option maxHeartbeats 1000000 in
theorem count_rr (g c size:Nat) (a:Option Addr) (bs:List UInt8) (st:Except Nat Nat) (w:World) (hl:bs.length≤ 2000000) (h:Rs w g a c bs st) (hs0:0< size) (hs1:size≤ 1000):
 Calls Tryz.prog 36 #[.pointer (some ⟨g,0,none⟩),.int .i64 size] w (RetCt w g a c bs size st):=by
 obtain⟨x,y,hb,hx0,hx1,hok,her⟩:=h.at
 have k1:=hb.box.cell (j:=1) rfl
 obtain⟨n,rfl⟩:=Int.eq_ofNat_of_zero_le hx0
 have HS:=Lib.hid (number_rr g c a bs st w hl h)
 have HOK:=Lib.hid (And.intro hok her)
 clear h hb hok her
 go_enter Tryz.func36,Tryz.ntmps36
 go_upto_region 3 with(go_at_call 34;((with_reducible refine HS.out.mono ?_);rintro e w1 ⟨ht,v,st1,hk,hs,rfl⟩;have HT:=Lib.hid ht;have HK:=Lib.hid hk;have HR:=Lib.hid hs;obtain⟨x1,y1,hb1,hx10,hx11,hok1,her1⟩:=hs.at;have r0:=hb1.box.cell (j:=0) rfl;have r1:=hb1.box.cell (j:=1) rfl;have HOK1:=Lib.hid (And.intro hok1 her1);clear ht hk hs hb1 hok1 her1))
 obtain⟨m,rfl⟩:=Int.eq_ofNat_of_zero_le hx10
 have HLK:=Lib.hid (count_link (size:=size) HK.out (fun p hp=>(HOK.out.1 p hp).1) (at':=m) (fun q hq=>by have:=(HOK1.out.1 q hq).1;omega) (fun f hf=>by have:=(HOK1.out.2 f hf).1;omega))
 have HF:=Lib.hid (fun W (hW:Below w1.heap.size w1 W)=>fails_s g c a bs st1 n W (HR.out.below hW))
 have HQ:=Lib.hid (fun k=>(below_drewN (Below.refl w1.heap.size w1) k))
 have e1:IntKind.i64.wrap ((bs.length:Int)-m)=((bs.length-m: Nat):Int):=by rw[IntWalk.i64_in _ (by omega)];omega
 have e2:wrap64 (((bs.length-m: Nat):Int)/(size:Int))=(((bs.length-m)/size: Nat):Int):=by
  have h2:(bs.length-m)/size≤ bs.length-m:= Nat.div_le_self _ _
  have h1:(((bs.length-m: Nat):Int))/(size:Int)=(((bs.length-m)/size: Nat):Int):=rfl
  rw[h1]
  generalize(bs.length-m)/size= u at h2
  unfold wrap64;omega
 have e3:((size:Int)==0)=false:= by simp;omega
 have FARM:True:= trivial
 by_cases hneg:v< 0
 ·have hd:decide (v<0)=true:= decide_eq_true hneg
  clear e1 e2 e3
  rw[if_pos (.inl hneg),if_pos (.inl hneg)]at HLK
  go_quiet (fail)
  go_wp2_with(go_at_call 74;((with_reducible refine(HF.out _ (HQ.out _)).mono ?_);rintro e w2 ⟨rfl,ht2,hs2⟩;have HT2:=Lib.hid ht2;have HR2:=Lib.hid hs2;clear ht2 hs2))
  go_ret
  exact⟨(HT.out.next (Turn.below (HQ.out _))).next HT2.out,0,_,HLK.out.1,HR2.out,rfl,fun _=>rfl⟩
 ·have hd:decide (v<0)=false:= decide_eq_false hneg
  generalize hD:(bs.length-m)/size= D at e2 HLK
  clear hD
  by_cases hgt:(D:Int)<v
  ·have hd2:decide ((D:Int)<v)=true:= decide_eq_true hgt
   rw[if_pos (.inr hgt),if_pos (.inr hgt)]at HLK
   go_quiet (fail)
   go_wp2_with(go_at_call 74;((with_reducible refine(HF.out _ (HQ.out _)).mono ?_);rintro e w2 ⟨rfl,ht2,hs2⟩;have HT2:=Lib.hid ht2;have HR2:=Lib.hid hs2;clear ht2 hs2))
   go_ret
   exact⟨(HT.out.next (Turn.below (HQ.out _))).next HT2.out,0,_,HLK.out.1,HR2.out,rfl,fun _=>rfl⟩
  ·have hd2:decide ((D:Int)<v)=false:= decide_eq_false hgt
   have hno:¬(v<0∨ v>(D:Int)):=by omega
   rw[if_neg hno,if_neg hno]at HLK
   go_quiet (fail)
   go_wp2_with(fail)
   go_ret
   refine⟨HT.out.next (Turn.below (HQ.out _)),v.toNat,_,HLK.out.1,HR.out.below (HQ.out _),?_,HLK.out.2⟩
   rw[Int.toNat_of_nonneg (by omega)];rfl
end Go.Proofs.YtfdmhpohfjbpfaaGreat
