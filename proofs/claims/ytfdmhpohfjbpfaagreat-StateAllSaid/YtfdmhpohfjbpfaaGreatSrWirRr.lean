import Derived.Test.YtfdmhpohfjbpfaaGreatSr20
set_option linter.unusedVariables false
set_option linter.unusedSimpArgs false
namespace Go.Proofs.YtfdmhpohfjbpfaaGreat
open Go.ChangeShapes Go.WideShapes Go.ChangeAt Go.RowKit
set_option maxRecDepth 100000
set_option maxHeartbeats 16000000
structure yf(w:World)(g:Nat)(a:Option Addr)(c:Nat)(bs:List UInt8)(at' bad:Int):Prop where
 box:aU w g (uk a bs.length c at' bad)
 row:iu w a bs
 cap:bs.length≤ c
 low:∀b o s,jU a bs=some ⟨b,o,s⟩→b< g
theorem yf.bY{S:Nat→ Prop}{w w':World}{g c:Nat}{a:Option Addr}{bs:List UInt8}{x y:Int}(h:yf w g a c bs x y)(hk:dv S w w')(hs:∀k,S k→Bl g (jU a bs) k):yf w' g a c bs x y:=
 ⟨h.box.bY (by simp) hk (fun e=>(hs g e).ne rfl),iu.Gb h.row hk (fun b o s e e2=>(hs b e2).lY o s e),h.cap,h.low⟩
theorem yf.new{w:World}{g c:Nat}{a:Option Addr}{bs:List UInt8}{x y:Int}(h:yf w g a c bs x y){k:Nat}(hk:w.heap.size≤ k):Bl g (jU a bs) k:=by
 have h1:=h.box.lt (by simp);exact⟨by omega,fun o s e=>by have:=h.low k o s e;omega⟩
theorem yf.below{w w':World}{g c:Nat}{a:Option Addr}{bs:List UInt8}{x y:Int}(h:yf w g a c bs x y)(hb:Below w.heap.size w w'):yf w' g a c bs x y:=h.bY (S:=fun k=>w.heap.size≤ k) (.of hb) (fun _ hk=>h.new hk)
theorem yf.move{w:World}{g c:Nat}{a:Option Addr}{bs:List UInt8}{x y:Int}(h:yf w g a c bs x y)(z:Int):yf (w.setCell ⟨g,1,none⟩ (.int .i64 z)) g a c bs z y:=
 ⟨h.box.set (i:=1) (by simp) _,iu.Gb h.row ((dv.refl (fun k=>k= g) w).set _ _ rfl) (fun b o s e e2=>by have:=h.low b o s e;omega),h.cap,h.low⟩
theorem yf.fail{w:World}{g c:Nat}{a:Option Addr}{bs:List UInt8}{x y:Int}(h:yf w g a c bs x y)(z:Int):yf (w.setCell ⟨g,2,none⟩ (.int .i64 z)) g a c bs x z:=
 ⟨h.box.set (i:=2) (by simp) _,iu.Gb h.row ((dv.refl (fun k=>k= g) w).set _ _ rfl) (fun b o s e e2=>by have:=h.low b o s e;omega),h.cap,h.low⟩
def Rs(w:World)(g:Nat)(a:Option Addr)(c:Nat)(bs:List UInt8):Except Nat Nat→Prop
 | .ok p=>yf w g a c bs p (-1)∧p≤ bs.length
 | .error f=>yf w g a c bs bs.length f
theorem Rs.below{w w':World}{g c:Nat}{a:Option Addr}{bs:List UInt8}{st:Except Nat Nat}(h:Rs w g a c bs st)(hb:Below w.heap.size w w'):Rs w' g a c bs st:=by
 cases st with
 |ok p=>exact ⟨h.1.below hb,h.2⟩
 |error f=>exact yf.below h hb
def cZ{α:Type}(P:List UInt8→Nat→ kQ α)(bs:List UInt8)(st:Except Nat Nat)(v:α)(st':Except Nat Nat):Prop:=
 match st with
 | .error f=>st'= .error f
 | .ok p=>match P bs p with
  | .ok (x,q)=>v= x∧st'= .ok q
  | .error f=>st'= .error f
theorem cZ.ok{α:Type}{P:List UInt8→Nat→ kQ α}{bs:List UInt8}{p q:Nat}{x:α}(h:P bs p= .ok (x,q)):cZ P bs (.ok p) x (.ok q):=by
 unfold cZ;simp[h]
theorem cZ.bad{α:Type}{P:List UInt8→Nat→ kQ α}{bs:List UInt8}{p f:Nat}(x:α)(h:P bs p= .error f):cZ P bs (.ok p) x (.error f):=by
 unfold cZ;simp only[h]
theorem cZ.err{α:Type}(P:List UInt8→Nat→ kQ α)(bs:List UInt8)(f:Nat)(x:α):cZ P bs (.error f) x (.error f):=rfl
theorem cZ.bind{α β:Type}{P:List UInt8→Nat→ kQ α}{F:α→ List UInt8→Nat→ kQ β}{bs:List UInt8}{st qB WQ:Except Nat Nat}{v:α}{y:β}(h:cZ P bs st v qB)(h2:cZ (F v) bs qB y WQ):cZ (fun l p=>cy (P l p) fun a q=>F a l q) bs st y WQ:=by
 unfold cZ at h h2 ⊢;cases st with
 |error f=>simp only at h ⊢;subst h;exact h2
 |ok p=>
  simp only at h ⊢;cases hp:P bs p with
  |error f=>rw [hp]at h;simp only at h;subst h;simp only[cy];exact h2
  |ok z=>
   obtain⟨x,q⟩:=z;rw[hp]at h;obtain⟨rfl,rfl⟩:=h;exact h2
theorem cZ.pure{α:Type}(v:α)(bs:List UInt8)(st:Except Nat Nat):cZ (fun _ p=> .ok (v,p)) bs st v st:=by
 unfold cZ;cases st with
 |error f=>rfl
 |ok p=>exact ⟨rfl,rfl⟩
theorem cZ.map{α β:Type}{P:List UInt8→Nat→ kQ α}{bs:List UInt8}{st qB:Except Nat Nat}{v:α}(h:cZ P bs st v qB)(f:α→ β):cZ (fun l p=>cy (P l p) fun a q=> .ok (f a,q)) bs st (f v) qB:=
 h.bind (F:=fun a _ q=> .ok (f a,q)) (cZ.pure (f v) bs qB)
def sQ{α:Type}(w:World)(g:Nat)(a:Option Addr)(c:Nat)(bs:List UInt8)(P:List UInt8→Nat→ kQ α)(st:Except Nat Nat)(OK:α→ Ending→World→ Prop)(e:Ending)(w':World):Prop:=
 dO g g w w'∧∃v st',cZ P bs st v st'∧Rs w' g a c bs st'∧OK v e w'
theorem N0(g c:Nat)(a:Option Addr)(bs:List UInt8)(x:Int)(k:Nat)(w:World)(h:yf w g a c bs x (-1)):
 Calls Tryz.prog 74 #[.pointer (some ⟨g,0,none⟩),.int .i64 k] w (fun e w'=>e= .returned (.tuple #[])∧dO g g w w'∧yf w' g a c bs bs.length k):=by
 have k0:=h.box.cell (j:=0) rfl;have k1:=h.box.cell (j:=1) rfl;have k2:=h.box.cell (j:=2) rfl;have z1:=h.box.cu (j:=1) (by simp);have z2:=h.box.cu (j:=2) (by simp);have HC:=h_ h;clear h;go_enter Tryz.func74,Tryz.ntmps74;go_wp2;go_end0;exact⟨rfl,((dO.refl g g w).set _ _ (.inl rfl)).set _ _ (.inl rfl),(HC.fail _).move _⟩
theorem Lh(g c:Nat)(a:Option Addr)(bs:List UInt8)(x:Int)(f k:Nat)(w:World)(h:yf w g a c bs x f):
 Calls Tryz.prog 74 #[.pointer (some ⟨g,0,none⟩),.int .i64 k] w (fun e w'=>e= .returned (.tuple #[])∧dO g g w w'∧yf w' g a c bs bs.length f):=by
 have k0:=h.box.cell (j:=0) rfl;have k1:=h.box.cell (j:=1) rfl;have k2:=h.box.cell (j:=2) rfl;have z1:=h.box.cu (j:=1) (by simp);have z2:=h.box.cu (j:=2) (by simp);have HC:=h_ h;clear h;go_enter Tryz.func74,Tryz.ntmps74;go_wp2;go_end0;exact⟨rfl,(dO.refl g g w).set _ _ (.inl rfl),HC.move _⟩
def Iq(k:Nat):Except Nat Nat→Except Nat Nat
 | .ok _=> .error k
 | .error f=> .error f
theorem yN(g c:Nat)(a:Option Addr)(bs:List UInt8)(st:Except Nat Nat)(k:Nat)(w:World)(h:Rs w g a c bs st):
 Calls Tryz.prog 74 #[.pointer (some ⟨g,0,none⟩),.int .i64 k] w (fun e w'=>e= .returned (.tuple #[])∧dO g g w w'∧Rs w' g a c bs (Iq k st)):=by
 cases st with
 |ok p=>exact N0 g c a bs p k w h.1
 |error f=>exact Lh g c a bs _ f k w h
def Um(v:Int)(e:Ending)(_:World):Prop:= e= .returned (.int .i64 v)
def MF(v:UInt8)(e:Ending)(_:World):Prop:= e= .returned (B v)
def Uv(v:Bool)(e:Ending)(_:World):Prop:= e= .returned (.bool v)
theorem Av(g c:Nat)(a:Option Addr)(bs:List UInt8)(st:Except Nat Nat)(x y:Int)(w:World)(hl:bs.length≤ 2000000)(h:Rs w g a c bs st)(hb:yf w g a c bs x y)(hx:bs.length- x<8)(hx0:0≤ x)(hx1:x≤ bs.length)(hst:∀p,st= .ok p→x= p):
 Calls Tryz.prog 34 #[.pointer (some ⟨g,0,none⟩)] w (sQ w g a c bs fX st Um):=by
 have k0:=hb.box.cell (j:=0) rfl;have k1:=hb.box.cell (j:=1) rfl;have d1:decide ((bs.length:Int)-x< 8)=true:= decide_eq_true hx;have e1:IntKind.i64.wrap ((bs.length:Int)-x)=bs.length- x:=IntWalk.i64_in _ o_;have HFA:=h_ (fun W (hW:Below w.heap.size w W)=>yN g c a bs st bs.length W (h.below hW));have HQ:=h_ (fun n=>(below_drewN (Below.refl w.heap.size w) n));have HST:=h_ hst;clear h hb hst;go_enter Tryz.func34,Tryz.ntmps34;go_upto_region 1 with(fail);go_quiet (fail);go_wp2_with(go_at_call 74;((with_reducible refine(HFA.out _ (HQ.out _)).mono ?_);rintro e w1 ⟨rfl,ht,hs⟩;have HT:=h_ ht;have HS:=h_ hs;clear ht hs));go_ret;refine⟨(dO.below (HQ _)).next HT.out,0,_,?_,HS.out,rfl⟩;cases st with
 |error f=>rfl
 |ok p=>
  have hp:=HST.out p rfl;have:fX bs p= .error bs.length:=by unfold fX qx;rw[if_pos o_];rfl
  unfold cZ;simp only[this];rfl
theorem NH{bs:List UInt8}{p k:Nat}(h:p+ k<bs.length):iz ((bs.drop p).take (k+1))=iz ((bs.drop p).take k)*256+ (bs[p+k]).toNat:=by
 have h1:k< (bs.drop p).length:=by rw[List.length_drop];omega
 rw[xq h1,List.getElem_drop]
theorem Jh(g c p b o:Nat)(bs:List UInt8)(w:World)(hl:bs.length≤ 2000000)(h:Rs w g (some ⟨b,o,none⟩) c bs (.ok p))(hx:p+ 8≤bs.length)(hc:∀i (h:i< bs.length),w.cell? ⟨b,o+i,none⟩=some (.int .u8 (bs[i].toNat:Int))):
 Calls Tryz.prog 34 #[.pointer (some ⟨g,0,none⟩)] w (sQ w g (some ⟨b,o,none⟩) c bs fX (.ok p) Um):=by
 obtain⟨hb,hp⟩:=h;have k0:=hb.box.cell (j:=0) rfl;have k1:=hb.box.cell (j:=1) rfl;have z1:=hb.box.cu (j:=1) (by simp);have d1:decide ((bs.length:Int)-p< 8)=false:= decide_eq_false o_;have e1:IntKind.i64.wrap ((bs.length:Int)-p)=bs.length- p:=IntWalk.i64_in _ o_;have HH:=h_ hb;have HCC:=h_ hc;clear hb hc;go_enter Tryz.func34,Tryz.ntmps34;go_upto_region 1 with(fail);go_quiet (fail);clear d1 e1;have HN:=h_ (⟨nq,rfl⟩:∃n,w.drewN nq=w.drewN n);have j0:(w.drewN nq).cell? ⟨g,0,none⟩=some (.slice (some ⟨b,o,none⟩) bs.length c):=k0;go_wp2;go_loopw [3,4] (fun v i wr=>∃k: Nat,k≤8∧ i= .int .i64 k∧v= .int .u64 (iz ((bs.drop p).take k):Nat)∧Hid (∃n,wr=w.drewN n)) (fun _ i _=>8- (intOf i).toNat)
 case atStart=>exact ⟨0,by omega,rfl,rfl,HN.out⟩
 case round=>
  obtain⟨k,hk,rfl,rfl,hwr⟩:=hrel;obtain⟨n,rfl⟩:=hwr.out;clear hwr;by_cases hlt:k< 8
  ·have hcell:=HCC.out (p+k) o_;have BO:iz ((bs.drop p).take k)<72057594037927936:= by
    refine Nat.lt_of_lt_of_le (lK _) ?_;rw[List.length_take,List.length_drop,Nat.min_eq_left o_];have:256^ k≤256^ 7:=Nat.pow_le_pow_right d_ o_;omega
   have HS:=h_ (NH (bs:=bs) (p:=p) (k:=k) o_);have HO:=h_ (CX (bs[p+k]'o_) BO);generalize bs[p+k]'o_=x at hcell HS HO;generalize iz ((bs.drop p).take k)=v at BO HS HO ⊢;have e1:IntKind.i64.wrap ((p:Int)+k)=((p+k: Nat):Int):=by rw[IntWalk.i64_in _ o_];omega
   go_upto_region 8 with(fail);go_quiet (fail);rw[HO.out];clear e1;go_wp2;exact⟨⟨k+1,by omega,by go_num,by rw[HS.out],by(show ∃m,_=_);exact⟨n+nq,by simp⟩⟩,by simp[intOf];omega⟩
  ·obtain rfl:k= 8:=o_;have TW:fX bs p= .ok (Ar ((bs.drop p).take 8),p+8):=by unfold fX qx;rw[if_neg o_];rfl
   have Rj:((bs.drop p).take 8).length=8:= by rw[List.length_take,List.length_drop];omega
   generalize(bs.drop p).take 8=l at Rj TW;have hbs:=lK l;rw[Rj]at hbs;have HV:Hid (wrap64 (iz l:Int)=Ar l):=by
    show _=_
    unfold Ar i64 wrap64
    split<;>omega
   have HNM:=h_ TW;have vL:=h_ hbs;clear TW Rj hbs;generalize iz l=v at HV vL ⊢;have hv:=vL.out;have e2:wrap64 ((p:Int)+8)=((p+8: Nat):Int):=by unfold wrap64;omega
   go_wp2;go_ret;have Ya:=below_drewN (Below.refl w.heap.size w) n;refine⟨(dO.below Ya).set _ _ (.inl rfl),Ar l,.ok (p+8),?_,⟨?_,by omega⟩,?_⟩
   ·exact cZ.ok HNM.out
   ·exact(HH.below Ya).move _
   ·show Ending.returned _=_
    rw[←HV.out];rfl
theorem wP(g c:Nat)(a:Option Addr)(bs:List UInt8)(st:Except Nat Nat)(w:World)(hl:bs.length≤ 2000000)(h:Rs w g a c bs st):
 Calls Tryz.prog 34 #[.pointer (some ⟨g,0,none⟩)] w (sQ w g a c bs fX st Um):=by
 cases st with
 |error f=>exact Av g c a bs _ bs.length f w hl h h o_ o_ o_ (fun p hp=>by cases hp)
 |ok p=>
  by_cases hx:p+ 8≤bs.length
  ·obtain⟨b,o,rfl,hc⟩:=iu.at h.1.row (k:=0) o_;exact Jh g c p b o bs w hl h hx hc
  ·exact Av g c a bs _ p (-1) w hl h h.1 (by have:=h.2;omega) o_ (by have:=h.2;omega) (fun q hq=>by cases hq;rfl)
theorem Db(g c:Nat)(a:Option Addr)(bs:List UInt8)(st:Except Nat Nat)(x y:Int)(w:World)(h:Rs w g a c bs st)(hb:yf w g a c bs x y)(hx:x= bs.length)(hst:∀p,st= .ok p→x= p):
 Calls Tryz.prog 33 #[.pointer (some ⟨g,0,none⟩)] w (sQ w g a c bs il st MF):=by
 subst hx;have k0:=hb.box.cell (j:=0) rfl;have k1:=hb.box.cell (j:=1) rfl;have HFA:=h_ (fun W (hW:Below w.heap.size w W)=>yN g c a bs st bs.length W (h.below hW));have HQ:=h_ (fun n=>(below_drewN (Below.refl w.heap.size w) n));have HST:=h_ hst;clear h hb hst;go_enter Tryz.func33,Tryz.ntmps33;go_upto_region 1 with(fail);go_quiet (fail);go_wp2_with(go_at_call 74;((with_reducible refine(HFA.out _ (HQ.out _)).mono ?_);rintro e w1 ⟨rfl,ht,hs⟩;have HT:=h_ ht;have HS:=h_ hs;clear ht hs));go_ret;refine⟨(dO.below (HQ _)).next HT.out,0,_,?_,HS.out,rfl⟩;cases st with
 |error f=>rfl
 |ok p=>
  have hp:=HST.out p rfl;exact cZ.bad _ (GK o_)
theorem Mb(g c p b o:Nat)(bs:List UInt8)(w:World)(hl:bs.length≤ 2000000)(h:Rs w g (some ⟨b,o,none⟩) c bs (.ok p))(hx:p< bs.length)(hc:∀i (h:i< bs.length),w.cell? ⟨b,o+i,none⟩=some (.int .u8 (bs[i].toNat:Int))):
 Calls Tryz.prog 33 #[.pointer (some ⟨g,0,none⟩)] w (sQ w g (some ⟨b,o,none⟩) c bs il (.ok p) MF):=by
 obtain⟨hb,hp⟩:=h;have k0:=hb.box.cell (j:=0) rfl;have k1:=hb.box.cell (j:=1) rfl;have z1:=hb.box.cu (j:=1) (by simp);have d1:decide (bs.length≤p)=false:= decide_eq_false o_;have hcell:=hc p hx;have HH:=h_ hb;have Mz:=h_ (show il bs p= .ok (bs[p],p+1) by rw[Dc o_,List.drop_eq_getElem_cons hx];rfl);clear hb hc;generalize bs[p]=v at hcell Mz;go_enter Tryz.func33,Tryz.ntmps33;go_upto_region 1 with(fail);go_quiet (fail);clear d1;have d3:decide (p<bs.length)=true:= decide_eq_true hx;go_upto_region 4 with(fail);go_quiet (fail);clear d3;have HQ:=h_ (fun n=>(below_drewN (Below.refl w.heap.size w) n));go_wp2;go_ret
 rename_i Vj
 have Ya:=HQ.out (Vj+nq);refine⟨(dO.below Ya).set _ _ (.inl rfl),v,.ok (p+1),cZ.ok Mz.out,⟨?_,by omega⟩,rfl⟩;exact(HH.below Ya).move _
theorem GL(g c:Nat)(a:Option Addr)(bs:List UInt8)(st:Except Nat Nat)(w:World)(hl:bs.length≤ 2000000)(h:Rs w g a c bs st):
 Calls Tryz.prog 33 #[.pointer (some ⟨g,0,none⟩)] w (sQ w g a c bs il st MF):=by
 cases st with
 |error f=>exact Db g c a bs _ bs.length f w h h rfl (fun p hp=>by cases hp)
 |ok p=>
  by_cases hx:p< bs.length
  ·obtain⟨b,o,rfl,hc⟩:=iu.at h.1.row (k:=0) o_;exact Mb g c p b o bs w hl h hx hc
  ·exact Db g c a bs _ p (-1) w h h.1 (by have:=h.2;omega) (fun q hq=>by cases hq;rfl)
end Go.Proofs.YtfdmhpohfjbpfaaGreat
