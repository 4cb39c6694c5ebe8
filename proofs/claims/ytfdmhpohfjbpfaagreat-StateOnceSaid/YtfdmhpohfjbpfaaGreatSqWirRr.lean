import Derived.Test.YtfdmhpohfjbpfaaGreatSq20
set_option linter.unusedVariables false
set_option linter.unusedSimpArgs false
namespace Go.Proofs.YtfdmhpohfjbpfaaGreat
open Go.ChangeShapes Go.WideShapes Go.ChangeAt Go.RowKit
set_option maxRecDepth 100000
structure Rd0 (w:World) (g:Nat) (a:Option Addr) (c:Nat) (bs:List UInt8) (at' bad:Int):Prop where
 box:Box w g [.slice a bs.length c,.int .i64 at',.int .i64 bad]
 row:RowB w a bs
 cap:bs.length≤ c
 low:∀b o s,rowA a bs=some ⟨b,o,s⟩→b< g
theorem Rd0.keep {S:Nat→ Prop} {w w':World} {g c:Nat} {a:Option Addr} {bs:List UInt8} {x y:Int} (h:Rd0 w g a c bs x y) (hk:Keep S w w') (hs:∀k,S k→Off g (rowA a bs) k):Rd0 w' g a c bs x y:=
 ⟨h.box.keep (by simp) hk (fun e=>(hs g e).ne rfl),RowB.keepA h.row hk (fun b o s e e2=>(hs b e2).far o s e),h.cap,h.low⟩
theorem Rd0.new {w:World} {g c:Nat} {a:Option Addr} {bs:List UInt8} {x y:Int} (h:Rd0 w g a c bs x y) {k:Nat} (hk:w.heap.size≤ k):Off g (rowA a bs) k:=by
 have h1:=h.box.lt (by simp)
 exact⟨by omega,fun o s e=>by have:=h.low k o s e;omega⟩
theorem Rd0.below {w w':World} {g c:Nat} {a:Option Addr} {bs:List UInt8} {x y:Int} (h:Rd0 w g a c bs x y) (hb:Below w.heap.size w w'):Rd0 w' g a c bs x y:=h.keep (S:=fun k=>w.heap.size≤ k) (.of hb) (fun _ hk=>h.new hk)
theorem Rd0.move {w:World} {g c:Nat} {a:Option Addr} {bs:List UInt8} {x y:Int} (h:Rd0 w g a c bs x y) (z:Int):Rd0 (w.setCell ⟨g,1,none⟩ (.int .i64 z)) g a c bs z y:=
 ⟨h.box.set (i:=1) (by simp) _,RowB.keepA h.row ((Keep.refl (fun k=>k= g) w).set _ _ rfl) (fun b o s e e2=>by have:=h.low b o s e;omega),h.cap,h.low⟩
theorem Rd0.fail {w:World} {g c:Nat} {a:Option Addr} {bs:List UInt8} {x y:Int} (h:Rd0 w g a c bs x y) (z:Int):Rd0 (w.setCell ⟨g,2,none⟩ (.int .i64 z)) g a c bs x z:=
 ⟨h.box.set (i:=2) (by simp) _,RowB.keepA h.row ((Keep.refl (fun k=>k= g) w).set _ _ rfl) (fun b o s e e2=>by have:=h.low b o s e;omega),h.cap,h.low⟩
def Rs (w:World) (g:Nat) (a:Option Addr) (c:Nat) (bs:List UInt8):Except Nat Nat→Prop
 | .ok p=>Rd0 w g a c bs p (-1)∧p≤ bs.length
 | .error f=>Rd0 w g a c bs bs.length f
theorem Rs.below {w w':World} {g c:Nat} {a:Option Addr} {bs:List UInt8} {st:Except Nat Nat} (h:Rs w g a c bs st) (hb:Below w.heap.size w w'):Rs w' g a c bs st:=by
 cases st with
 |ok p=>exact ⟨h.1.below hb,h.2⟩
 |error f=>exact Rd0.below h hb
def Link {α:Type} (P:List UInt8→Nat→ Got α) (bs:List UInt8) (st:Except Nat Nat) (v:α) (st':Except Nat Nat):Prop:=
 match st with
 | .error f=>st'= .error f
 | .ok p=>match P bs p with
  | .ok (x,q)=>v= x∧st'= .ok q
  | .error f=>st'= .error f
theorem Link.ok {α:Type} {P:List UInt8→Nat→ Got α} {bs:List UInt8} {p q:Nat} {x:α} (h:P bs p= .ok (x,q)):Link P bs (.ok p) x (.ok q):=by
 unfold Link;simp[h]
theorem Link.bad {α:Type} {P:List UInt8→Nat→ Got α} {bs:List UInt8} {p f:Nat} (x:α) (h:P bs p= .error f):Link P bs (.ok p) x (.error f):=by
 unfold Link;simp only[h]
theorem Link.err {α:Type} (P:List UInt8→Nat→ Got α) (bs:List UInt8) (f:Nat) (x:α):Link P bs (.error f) x (.error f):=rfl
theorem Link.bind {α β:Type} {P:List UInt8→Nat→ Got α} {F:α→ List UInt8→Nat→ Got β} {bs:List UInt8} {st st1 st2:Except Nat Nat} {v:α} {y:β} (h:Link P bs st v st1) (h2:Link (F v) bs st1 y st2):Link (fun l p=>bindP (P l p) fun a q=>F a l q) bs st y st2:=by
 unfold Link at h h2 ⊢
 cases st with
 |error f=>simp only at h ⊢;subst h;exact h2
 |ok p=>
  simp only at h ⊢
  cases hp:P bs p with
  |error f=>rw [hp]at h;simp only at h;subst h;simp only[bindP];exact h2
  |ok z=>
   obtain⟨x,q⟩:=z
   rw[hp]at h
   obtain⟨rfl,rfl⟩:=h
   exact h2
theorem Link.pure {α:Type} (v:α) (bs:List UInt8) (st:Except Nat Nat):Link (fun _ p=> .ok (v,p)) bs st v st:=by
 unfold Link
 cases st with
 |error f=>rfl
 |ok p=>exact ⟨rfl,rfl⟩
theorem Link.map {α β:Type} {P:List UInt8→Nat→ Got α} {bs:List UInt8} {st st1:Except Nat Nat} {v:α} (h:Link P bs st v st1) (f:α→ β):Link (fun l p=>bindP (P l p) fun a q=> .ok (f a,q)) bs st (f v) st1:=
 h.bind (F:=fun a _ q=> .ok (f a,q)) (Link.pure (f v) bs st1)
def RetRf {α:Type} (w:World) (g:Nat) (a:Option Addr) (c:Nat) (bs:List UInt8) (P:List UInt8→Nat→ Got α) (st:Except Nat Nat) (OK:α→ Ending→World→ Prop) (e:Ending) (w':World):Prop:=
 Turn g g w w'∧∃v st',Link P bs st v st'∧Rs w' g a c bs st'∧OK v e w'
set_option maxHeartbeats 1000000 in
theorem fails_ok (g c:Nat) (a:Option Addr) (bs:List UInt8) (x:Int) (k:Nat) (w:World) (h:Rd0 w g a c bs x (-1)):
 Calls Tryz.prog 74 #[.pointer (some ⟨g,0,none⟩),.int .i64 k] w (fun e w'=>e= .returned (.tuple #[])∧Turn g g w w'∧Rd0 w' g a c bs bs.length k):=by
 have k0:=h.box.cell (j:=0) rfl
 have k1:=h.box.cell (j:=1) rfl
 have k2:=h.box.cell (j:=2) rfl
 have z1:=h.box.froz (j:=1) (by simp)
 have z2:=h.box.froz (j:=2) (by simp)
 have HC:=Lib.hid h
 clear h
 go_enter Tryz.func74,Tryz.ntmps74
 go_wp2
 go_end0
 exact⟨rfl,((Turn.refl g g w).set _ _ (.inl rfl)).set _ _ (.inl rfl),(HC.out.fail _).move _⟩
set_option maxHeartbeats 1000000 in
theorem fails_bad (g c:Nat) (a:Option Addr) (bs:List UInt8) (x:Int) (f k:Nat) (w:World) (h:Rd0 w g a c bs x f):
 Calls Tryz.prog 74 #[.pointer (some ⟨g,0,none⟩),.int .i64 k] w (fun e w'=>e= .returned (.tuple #[])∧Turn g g w w'∧Rd0 w' g a c bs bs.length f):=by
 have k0:=h.box.cell (j:=0) rfl
 have k1:=h.box.cell (j:=1) rfl
 have k2:=h.box.cell (j:=2) rfl
 have z1:=h.box.froz (j:=1) (by simp)
 have z2:=h.box.froz (j:=2) (by simp)
 have HC:=Lib.hid h
 clear h
 go_enter Tryz.func74,Tryz.ntmps74
 go_wp2
 go_end0
 exact⟨rfl,(Turn.refl g g w).set _ _ (.inl rfl),HC.out.move _⟩
def failSt (k:Nat):Except Nat Nat→Except Nat Nat
 | .ok _=> .error k
 | .error f=> .error f
theorem fails_s (g c:Nat) (a:Option Addr) (bs:List UInt8) (st:Except Nat Nat) (k:Nat) (w:World) (h:Rs w g a c bs st):
 Calls Tryz.prog 74 #[.pointer (some ⟨g,0,none⟩),.int .i64 k] w (fun e w'=>e= .returned (.tuple #[])∧Turn g g w w'∧Rs w' g a c bs (failSt k st)):=by
 cases st with
 |ok p=>exact fails_ok g c a bs p k w h.1
 |error f=>exact fails_bad g c a bs _ f k w h
def IntE (v:Int) (e:Ending) (_:World):Prop:= e= .returned (.int .i64 v)
def ByteE (v:UInt8) (e:Ending) (_:World):Prop:= e= .returned (B v)
def TruthE (v:Bool) (e:Ending) (_:World):Prop:= e= .returned (.bool v)
set_option maxHeartbeats 1000000 in
theorem number_rr0 (g c:Nat) (a:Option Addr) (bs:List UInt8) (st:Except Nat Nat) (x y:Int) (w:World) (hl:bs.length≤ 2000000) (h:Rs w g a c bs st) (hb:Rd0 w g a c bs x y) (hx:bs.length- x<8) (hx0:0≤ x) (hx1:x≤ bs.length) (hst:∀p,st= .ok p→x= p):
 Calls Tryz.prog 34 #[.pointer (some ⟨g,0,none⟩)] w (RetRf w g a c bs numP st IntE):=by
 have k0:=hb.box.cell (j:=0) rfl
 have k1:=hb.box.cell (j:=1) rfl
 have d1:decide ((bs.length:Int)-x< 8)=true:= decide_eq_true hx
 have e1:IntKind.i64.wrap ((bs.length:Int)-x)=bs.length- x:=IntWalk.i64_in _ (by omega)
 have HFA:=Lib.hid (fun W (hW:Below w.heap.size w W)=>fails_s g c a bs st bs.length W (h.below hW))
 have HQ:=Lib.hid (fun n=>(below_drewN (Below.refl w.heap.size w) n))
 have HST:=Lib.hid hst
 clear h hb hst
 go_enter Tryz.func34,Tryz.ntmps34
 go_upto_region 1 with(fail)
 go_quiet (fail)
 go_wp2_with(go_at_call 74;((with_reducible refine(HFA.out _ (HQ.out _)).mono ?_);rintro e w1 ⟨rfl,ht,hs⟩;have HT:=Lib.hid ht;have HS:=Lib.hid hs;clear ht hs))
 go_ret
 refine⟨(Turn.below (HQ.out _)).next HT.out,0,_,?_,HS.out,rfl⟩
 cases st with
 |error f=>rfl
 |ok p=>
  have hp:=HST.out p rfl
  have:numP bs p= .error bs.length:=by unfold numP needP;rw[if_pos (by omega)];rfl
  unfold Link
  simp only[this]
  rfl
theorem beVal_at {bs:List UInt8} {p k:Nat} (h:p+ k<bs.length):beVal ((bs.drop p).take (k+1))=beVal ((bs.drop p).take k)*256+ (bs[p+k]).toNat:=by
 have h1:k< (bs.drop p).length:=by rw[List.length_drop];omega
 rw[beVal_take1 h1,List.getElem_drop]
set_option maxHeartbeats 1000000 in
theorem number_rr1 (g c p b o:Nat) (bs:List UInt8) (w:World) (hl:bs.length≤ 2000000) (h:Rs w g (some ⟨b,o,none⟩) c bs (.ok p)) (hx:p+ 8≤bs.length) (hc:∀i (h:i< bs.length),w.cell? ⟨b,o+i,none⟩=some (.int .u8 (bs[i].toNat:Int))):
 Calls Tryz.prog 34 #[.pointer (some ⟨g,0,none⟩)] w (RetRf w g (some ⟨b,o,none⟩) c bs numP (.ok p) IntE):=by
 obtain⟨hb,hp⟩:=h
 have k0:=hb.box.cell (j:=0) rfl
 have k1:=hb.box.cell (j:=1) rfl
 have z1:=hb.box.froz (j:=1) (by simp)
 have d1:decide ((bs.length:Int)-p< 8)=false:= decide_eq_false (by omega)
 have e1:IntKind.i64.wrap ((bs.length:Int)-p)=bs.length- p:=IntWalk.i64_in _ (by omega)
 have HH:=Lib.hid hb
 have HCC:=Lib.hid hc
 clear hb hc
 go_enter Tryz.func34,Tryz.ntmps34
 go_upto_region 1 with(fail)
 go_quiet (fail)
 clear d1 e1
 have HN:=Lib.hid (⟨nq,rfl⟩:∃n,w.drewN nq=w.drewN n)
 have j0:(w.drewN nq).cell? ⟨g,0,none⟩=some (.slice (some ⟨b,o,none⟩) bs.length c):=k0
 go_wp2
 go_loopw [3,4] (fun v i wr=>∃k: Nat,k≤8∧ i= .int .i64 k∧v= .int .u64 (beVal ((bs.drop p).take k):Nat)∧Hid (∃n,wr=w.drewN n)) (fun _ i _=>8- (intOf i).toNat)
 case atStart=>exact ⟨0,by omega,rfl,rfl,HN.out⟩
 case round=>
  obtain⟨k,hk,rfl,rfl,hwr⟩:=hrel
  obtain⟨n,rfl⟩:=hwr.out
  clear hwr
  by_cases hlt:k< 8
  ·have hcell:=HCC.out (p+k) (by omega)
   have hlt2:beVal ((bs.drop p).take k)<72057594037927936:= by
    refine Nat.lt_of_lt_of_le (beVal_lt _) ?_
    rw[List.length_take,List.length_drop,Nat.min_eq_left (by omega)]
    have:256^ k≤256^ 7:=Nat.pow_le_pow_right (by decide) (by omega)
    omega
   have HS:=Lib.hid (beVal_at (bs:=bs) (p:=p) (k:=k) (by omega))
   have HO:=Lib.hid (or_step64 (bs[p+k]'(by omega)) hlt2)
   generalize bs[p+k]'(by omega)=x at hcell HS HO
   generalize beVal ((bs.drop p).take k)=v at hlt2 HS HO ⊢
   have e1:IntKind.i64.wrap ((p:Int)+k)=((p+k: Nat):Int):=by rw[IntWalk.i64_in _ (by omega)];omega
   go_upto_region 8 with(fail)
   go_quiet (fail)
   rw[HO.out]
   clear e1
   go_wp2
   exact⟨⟨k+1,by omega,by go_num,by rw[HS.out],by(show ∃m,_=_);exact⟨n+nq,by simp⟩⟩,by simp[intOf];omega⟩
  ·obtain rfl:k= 8:=by omega
   have HNUM:numP bs p= .ok (num8 ((bs.drop p).take 8),p+8):=by unfold numP needP;rw[if_neg (by omega)];rfl
   have hl8:((bs.drop p).take 8).length=8:= by rw[List.length_take,List.length_drop];omega
   generalize(bs.drop p).take 8=l at hl8 HNUM
   have hbs:=beVal_lt l
   rw[hl8]at hbs
   have HV:Hid (wrap64 (beVal l:Int)=num8 l):=by
    show _=_
    unfold num8 i64 wrap64
    split<;>omega
   have HNM:=Lib.hid HNUM
   have HB8:=Lib.hid hbs
   clear HNUM hl8 hbs
   generalize beVal l=v at HV HB8 ⊢
   have hv:=HB8.out
   have e2:wrap64 ((p:Int)+8)=((p+8: Nat):Int):=by unfold wrap64;omega
   go_wp2
   go_ret
   have hbn:=below_drewN (Below.refl w.heap.size w) n
   refine⟨(Turn.below hbn).set _ _ (.inl rfl),num8 l,.ok (p+8),?_,⟨?_,by omega⟩,?_⟩
   ·exact Link.ok HNM.out
   ·exact(HH.out.below hbn).move _
   ·show Ending.returned _=_
    rw[←HV.out];rfl
theorem number_rr (g c:Nat) (a:Option Addr) (bs:List UInt8) (st:Except Nat Nat) (w:World) (hl:bs.length≤ 2000000) (h:Rs w g a c bs st):
 Calls Tryz.prog 34 #[.pointer (some ⟨g,0,none⟩)] w (RetRf w g a c bs numP st IntE):=by
 cases st with
 |error f=>exact number_rr0 g c a bs _ bs.length f w hl h h (by omega) (by omega) (by omega) (fun p hp=>by cases hp)
 |ok p=>
  by_cases hx:p+ 8≤bs.length
  ·obtain⟨b,o,rfl,hc⟩:=RowB.at h.1.row (k:=0) (by omega)
   exact number_rr1 g c p b o bs w hl h hx hc
  ·exact number_rr0 g c a bs _ p (-1) w hl h h.1 (by have:=h.2;omega) (by omega) (by have:=h.2;omega) (fun q hq=>by cases hq;rfl)
set_option maxHeartbeats 1000000 in
theorem small_rr0 (g c:Nat) (a:Option Addr) (bs:List UInt8) (st:Except Nat Nat) (x y:Int) (w:World) (h:Rs w g a c bs st) (hb:Rd0 w g a c bs x y) (hx:x= bs.length) (hst:∀p,st= .ok p→x= p):
 Calls Tryz.prog 33 #[.pointer (some ⟨g,0,none⟩)] w (RetRf w g a c bs smallP st ByteE):=by
 subst hx
 have k0:=hb.box.cell (j:=0) rfl
 have k1:=hb.box.cell (j:=1) rfl
 have HFA:=Lib.hid (fun W (hW:Below w.heap.size w W)=>fails_s g c a bs st bs.length W (h.below hW))
 have HQ:=Lib.hid (fun n=>(below_drewN (Below.refl w.heap.size w) n))
 have HST:=Lib.hid hst
 clear h hb hst
 go_enter Tryz.func33,Tryz.ntmps33
 go_upto_region 1 with(fail)
 go_quiet (fail)
 go_wp2_with(go_at_call 74;((with_reducible refine(HFA.out _ (HQ.out _)).mono ?_);rintro e w1 ⟨rfl,ht,hs⟩;have HT:=Lib.hid ht;have HS:=Lib.hid hs;clear ht hs))
 go_ret
 refine⟨(Turn.below (HQ.out _)).next HT.out,0,_,?_,HS.out,rfl⟩
 cases st with
 |error f=>rfl
 |ok p=>
  have hp:=HST.out p rfl
  exact Link.bad _ (small_no (by omega))
set_option maxHeartbeats 1000000 in
theorem small_rr1 (g c p b o:Nat) (bs:List UInt8) (w:World) (hl:bs.length≤ 2000000) (h:Rs w g (some ⟨b,o,none⟩) c bs (.ok p)) (hx:p< bs.length) (hc:∀i (h:i< bs.length),w.cell? ⟨b,o+i,none⟩=some (.int .u8 (bs[i].toNat:Int))):
 Calls Tryz.prog 33 #[.pointer (some ⟨g,0,none⟩)] w (RetRf w g (some ⟨b,o,none⟩) c bs smallP (.ok p) ByteE):=by
 obtain⟨hb,hp⟩:=h
 have k0:=hb.box.cell (j:=0) rfl
 have k1:=hb.box.cell (j:=1) rfl
 have z1:=hb.box.froz (j:=1) (by simp)
 have d1:decide (bs.length≤p)=false:= decide_eq_false (by omega)
 have hcell:=hc p hx
 have HH:=Lib.hid hb
 have HSM:=Lib.hid (show smallP bs p= .ok (bs[p],p+1) by rw[small_yes (by omega),List.drop_eq_getElem_cons hx];rfl)
 clear hb hc
 generalize bs[p]=v at hcell HSM
 go_enter Tryz.func33,Tryz.ntmps33
 go_upto_region 1 with(fail)
 go_quiet (fail)
 clear d1
 have d3:decide (p<bs.length)=true:= decide_eq_true hx
 go_upto_region 4 with(fail)
 go_quiet (fail)
 clear d3
 have HQ:=Lib.hid (fun n=>(below_drewN (Below.refl w.heap.size w) n))
 go_wp2
 go_ret
 rename_i nq0
 have hbn:=HQ.out (nq0+nq)
 refine⟨(Turn.below hbn).set _ _ (.inl rfl),v,.ok (p+1),Link.ok HSM.out,⟨?_,by omega⟩,rfl⟩
 exact(HH.out.below hbn).move _
theorem small_rr (g c:Nat) (a:Option Addr) (bs:List UInt8) (st:Except Nat Nat) (w:World) (hl:bs.length≤ 2000000) (h:Rs w g a c bs st):
 Calls Tryz.prog 33 #[.pointer (some ⟨g,0,none⟩)] w (RetRf w g a c bs smallP st ByteE):=by
 cases st with
 |error f=>exact small_rr0 g c a bs _ bs.length f w h h rfl (fun p hp=>by cases hp)
 |ok p=>
  by_cases hx:p< bs.length
  ·obtain⟨b,o,rfl,hc⟩:=RowB.at h.1.row (k:=0) (by omega)
   exact small_rr1 g c p b o bs w hl h hx hc
  ·exact small_rr0 g c a bs _ p (-1) w h h.1 (by have:=h.2;omega) (fun q hq=>by cases hq;rfl)
end Go.Proofs.YtfdmhpohfjbpfaaGreat
