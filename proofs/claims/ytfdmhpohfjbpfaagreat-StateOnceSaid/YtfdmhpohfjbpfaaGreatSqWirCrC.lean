import Derived.IntWalk
import Derived.Test.YtfdmhpohfjbpfaaGreatSq11
set_option linter.unusedVariables false
set_option linter.unusedSimpArgs false
namespace Go.Proofs.YtfdmhpohfjbpfaaGreat
open Go.ChangeShapes Go.WideShapes Go.ChangeAt Go.RowKit
set_option maxRecDepth 100000
theorem Turn.inner {g gx gy:Nat} {w W w':World} (h:Turn g gy W w') (h0:Turn g gx w W) (hy:w.heap.size≤ gy):Turn g gx w w':=
 Keep.trans h0 (h.mono fun k _ e=>by rcases e with e|e| e;exact .inl e;exact .inr (.inr (by omega));exact .inr (.inr (Nat.le_trans h0.size e)))
theorem Turn.off {g gx gy:Nat} {w w':World} {cs:List Value} (h:Turn g gy w w') (hb:Box w gx cs) (h0:0< cs.length) (h1:gx≠ g) (h2:gx≠ gy):Box w' gx cs:=
 hb.keep h0 h (by have:=hb.lt h0;omega)
theorem wrap_i8 (n:Int):IntKind.i8.wrap n=(n+128)%256- 128:=by
 simp[IntKind.wrap,IntKind.bits,IntKind.signed]
 split<;>omega
theorem kind_wrap (b:UInt8):IntKind.i8.wrap (b.toNat:Int)=kindI b:=by
 have h:=b.toNat_lt
 rw[wrap_i8]
 unfold kindI
 split<;>omega
set_option maxHeartbeats 1000000 in
theorem kind_t (g c p gx ox:Nat) (a:Option Addr) (bs:List UInt8) (cs:List Value) (k0:Int) (w:World) (h:Cr w g a c bs p) (hl:bs.length≤ 2000000) (hx:Box w gx cs) (hgx:Off g (rowA a bs) gx) (hox:ox< cs.length) (hv:cs[ox]? =some (.int .i8 k0)):
 Calls Tryz.prog 108 #[.pointer (some ⟨g,0,none⟩),.pointer (some ⟨gx,ox,none⟩)] w (RetPut (.int .i8) w g gx ox a c bs cs (kindP bs p)):=by
 have x0:=hx.cell hv
 have hgl:=hx.lt (by omega)
 obtain⟨W,hW⟩:∃W,W=w.alloc (.cells #[.int .u8 (k0%256)] 5):=⟨_,rfl⟩
 have hB:Below w.heap.size w W:=by rw[hW];exact(Below.refl _ _).alloc (Nat.le_refl _) _
 have hT:Box W w.heap.size [.int .u8 (k0%256)]:=by rw[hW];exact Box.of_alloc (Below.refl _ _)
 have HS:Hid (Calls Tryz.prog 154 #[.pointer (some ⟨g,0,none⟩),.pointer (some ⟨w.heap.size,0,none⟩)] W (RetPut B W g w.heap.size 0 a c bs [.int .u8 (k0%256)] (smallP bs p))):=small_t g c p w.heap.size 0 a bs _ W (h.below hB) hl hT (h.new (Nat.le_refl _)) (by simp)
 have HX:=Lib.hid (hx.next (by omega) hB)
 have HB:=Lib.hid hB
 have HE:=Lib.hid (hx.lt (by omega))
 have HV:=Lib.hid hv
 clear h hx hB hT hv
 rw[hW]at HS
 have HW:=Lib.hid hW
 clear hW
 go_enter Tryz.func108,Tryz.ntmps108
 go_wp2_with(go_at_call 154;((with_reducible refine HS.out.mono ?_);rw[←HW.out];rintro e w1 ⟨ht,⟨v,q,hr,rfl,hc,hb⟩|⟨f,hr,rfl,hb⟩⟩<;>have HT1:=Lib.hid ht<;>have HR:=Lib.hid hr<;>have HX1:=Lib.hid (ht.off HX.out (by omega) hgx.ne (by have:=HE.out;omega))<;>clear ht hr;all_goals(first|(have y0:=hb.cell (j:=0) rfl;have x1:=HX1.out.cell (List.getElem?_eq_getElem hox);have z1:=HX1.out.froz hox;have HC1:=Lib.hid hc;have HB1:=Lib.hid hb;clear hc hb)|skip)))
 ·rw[kind_wrap]
  go_end0
  have HTT:=HT1.out.inner (Turn.below (g:=g) (gx:=gx) HB.out) (Nat.le_refl _)
  exact⟨HTT.set _ _ (.inr (.inl rfl)),.inl ⟨_,_,by(show bindP _ _=_);rw[HR.out];rfl,rfl,HC1.out.keep ((Keep.refl (fun k=>k= gx) _).set _ _ rfl) (fun k e=>by subst e;exact hgx),HX1.out.set hox _⟩⟩
 ·exact⟨rfl,HT1.out.inner (Turn.below (g:=g) (gx:=gx) HB.out) (Nat.le_refl _),.inr ⟨_,by(show bindP _ _=_);rw[HR.out];rfl,rfl,.of HX1.out rfl⟩⟩
theorem small_q {bs:List UInt8} {p q:Nat} {v:UInt8} (h:smallP bs p= .ok (v,q)):1≤ q:=by
 unfold smallP needP at h
 split at h
 ·cases h
 ·simp only[bindP,Except.ok.injEq,Prod.mk.injEq]at h;omega
theorem one_nat (v:UInt8):((v.toNat:Int)==1)=(v.toNat==1):=by rw[Bool.eq_iff_iff];simp;omega
set_option maxHeartbeats 1000000 in
theorem truth_t (g c p gx ox:Nat) (a:Option Addr) (bs:List UInt8) (cs:List Value) (w:World) (h:Cr w g a c bs p) (hl:bs.length≤ 2000000) (hx:Box w gx cs) (hgx:Off g (rowA a bs) gx) (hox:ox< cs.length) (hv:cs[ox]? =some (.bool false)):
 Calls Tryz.prog 110 #[.pointer (some ⟨g,0,none⟩),.pointer (some ⟨gx,ox,none⟩)] w (RetPut .bool w g gx ox a c bs cs (truthP bs p)):=by
 have x0:=hx.cell hv
 have hgl:=hx.lt (by omega)
 obtain⟨W,hW⟩:∃W,W=w.alloc (.cells #[.int .u8 0] 5):=⟨_,rfl⟩
 have hB:Below w.heap.size w W:=by rw[hW];exact(Below.refl _ _).alloc (Nat.le_refl _) _
 have hT:Box W w.heap.size [.int .u8 0]:=by rw[hW];exact Box.of_alloc (Below.refl _ _)
 have HS:Hid (Calls Tryz.prog 154 #[.pointer (some ⟨g,0,none⟩),.pointer (some ⟨w.heap.size,0,none⟩)] W (RetPut B W g w.heap.size 0 a c bs [.int .u8 0] (smallP bs p))):=small_t g c p w.heap.size 0 a bs _ W (h.below hB) hl hT (h.new (Nat.le_refl _)) (by simp)
 have HX:=Lib.hid (hx.next (by omega) hB)
 have HB:=Lib.hid hB
 have HE:=Lib.hid (hx.lt (by omega))
 have HV:=Lib.hid hv
 clear h hx hB hT hv
 rw[hW]at HS
 have HW:=Lib.hid hW
 clear hW
 go_enter Tryz.func110,Tryz.ntmps110
 go_wp2_with(go_at_call 154;((with_reducible refine HS.out.mono ?_);rw[←HW.out];rintro e w1 ⟨ht,⟨v,q,hr,rfl,hc,hb⟩|⟨f,hr,rfl,hb⟩⟩<;>have HT1:=Lib.hid ht<;>have HR:=Lib.hid hr<;>have HX1:=Lib.hid (ht.off HX.out (by omega) hgx.ne (by have:=HE.out;omega))<;>clear ht hr;all_goals(first|(have y0:=hb.cell (j:=0) rfl;have x1:=HX1.out.cell (List.getElem?_eq_getElem hox);have z1:=HX1.out.froz hox;have HC1:=Lib.hid hc;have HB1:=Lib.hid hb;have r1:=hc.box.cell (j:=1) rfl;have hq1:=small_q HR.out;have hq2:=hc.le;clear hc hb)|skip)))
 ·have e:((q:Int)-1)=((q-1: Nat):Int):=by omega
  rw[e]
  exact⟨rfl,HT1.out.inner (Turn.below (g:=g) (gx:=gx) HB.out) (Nat.le_refl _),.inr ⟨_,by(show bindP _ _=_);rw[HR.out];(show(if _ then _ else _)=_);rw[if_pos (by omega)],rfl,.of HX1.out rfl⟩⟩
 ·rw[one_nat]
  go_end0
  have HTT:=HT1.out.inner (Turn.below (g:=g) (gx:=gx) HB.out) (Nat.le_refl _)
  exact⟨HTT.set _ _ (.inr (.inl rfl)),.inl ⟨_,_,by(show bindP _ _=_);rw[HR.out];(show(if _ then _ else _)=_);rw[if_neg (by omega)],rfl,HC1.out.keep ((Keep.refl (fun k=>k= gx) _).set _ _ rfl) (fun k e=>by subst e;exact hgx),HX1.out.set hox _⟩⟩
 ·exact⟨rfl,HT1.out.inner (Turn.below (g:=g) (gx:=gx) HB.out) (Nat.le_refl _),.inr ⟨_,by(show bindP _ _=_);rw[HR.out];rfl,rfl,.of HX1.out rfl⟩⟩
def RetCount (w:World) (g:Nat) (a:Option Addr) (c:Nat) (bs:List UInt8) (r:Got Nat) (e:Ending) (w':World):Prop:=
 Keep (fun k=>k= g∨w.heap.size≤ k) w w'∧((∃(x q:Nat),r= .ok (x,q)∧e= .returned (.int .i64 x)∧Cr w' g a c bs q)∨(∃f,r= .error f∧e= badV f))
set_option maxHeartbeats 1000000 in
theorem count_t (g c p size:Nat) (n0:Int) (a:Option Addr) (bs:List UInt8) (w:World) (h:Cr w g a c bs p) (hl:bs.length≤ 2000000) (hs0:0< size) (hs1:size≤ 1000):
 Calls Tryz.prog 156 #[.pointer (some ⟨g,0,none⟩),.int .i64 n0,.int .i64 size] w (RetCount w g a c bs (countP size bs p)):=by
 have x0:=h.box.cell (j:=1) rfl
 have hgl:=h.box.lt (by simp)
 obtain⟨W,hW⟩:∃W,W=w.alloc (.cells #[.int .i64 n0] 3):=⟨_,rfl⟩
 have hB:Below w.heap.size w W:=by rw[hW];exact(Below.refl _ _).alloc (Nat.le_refl _) _
 have hT:Box W w.heap.size [.int .i64 n0]:=by rw[hW];exact Box.of_alloc (Below.refl _ _)
 have HS:Hid (Calls Tryz.prog 109 #[.pointer (some ⟨g,0,none⟩),.pointer (some ⟨w.heap.size,0,none⟩)] W (RetPut (.int .i64) W g w.heap.size 0 a c bs [.int .i64 n0] (numP bs p))):=number_t g c p w.heap.size 0 a bs _ W (h.below hB) hl hT (h.new (Nat.le_refl _)) (by simp)
 have HB:=Lib.hid hB
 clear h hB hT
 rw[hW]at HS
 have HW:=Lib.hid hW
 clear hW
 go_enter Tryz.func156,Tryz.ntmps156
 go_wp2_with(go_at_call 109;((with_reducible refine HS.out.mono ?_);rw[←HW.out];rintro e w1 ⟨ht,⟨v,q,hr,rfl,hc,hb⟩|⟨f,hr,rfl,hb⟩⟩<;>have HT1:=Lib.hid ht<;>have HR:=Lib.hid hr<;>clear ht hr;all_goals(first|(have y0:=hb.cell (j:=0) rfl;have HC1:=Lib.hid hc;have HB1:=Lib.hid hb;have r0:=hc.box.cell (j:=0) rfl;have r1:=hc.box.cell (j:=1) rfl;have r2:=hc.box.cell (j:=2) rfl;have hq:=hc.le;clear hc hb)|skip)))
 ·have HTT:Hid (Keep (fun k=>k= g∨w.heap.size≤ k) w w1):=Lib.hid ((HT1.out.inner (Turn.below (g:=g) (gx:=g) HB.out) (Nat.le_refl _)).mono (fun k _ e=>by rcases e with e|e| e;exact .inl e;exact .inl e;exact .inr e))
  have HQ:=Lib.hid (show ∀n,Keep (fun k=>k= g∨w.heap.size≤ k) w (w1.drewN n)∧Below w1.heap.size w1 (w1.drewN n)from fun n=>⟨HTT.out.trans (.of (below_drewN (Below.refl _ _) n)),below_drewN (Below.refl _ _) n⟩)
  clear HTT HT1
  have e1:IntKind.i64.wrap ((bs.length:Int)-q)=((bs.length-q: Nat):Int):=by rw[IntWalk.i64_in _ (by omega)];omega
  have e2:wrap64 (((bs.length-q: Nat):Int)/(size:Int))=(((bs.length-q)/size: Nat):Int):=by
   have h2:(bs.length-q)/size≤ bs.length-q:= Nat.div_le_self _ _
   have h1:(((bs.length-q: Nat):Int))/(size:Int)=(((bs.length-q)/size: Nat):Int):=rfl
   rw[h1]
   generalize(bs.length-q)/size= u at h2
   unfold wrap64;omega
  have e3:((size:Int)==0)=false:= by simp;omega
  by_cases hneg:v< 0
  ·have hd:decide (v<0)=true:= decide_eq_true hneg
   clear e1 e2 e3
   go_quiet (fail)
   go_wp2_with fail
   exact⟨rfl,(HQ.out _).1,.inr ⟨_,by(show bindP _ _=_);rw[HR.out];(show(if _ then _ else _)=_);rw[if_pos (.inl hneg)],rfl⟩⟩
  ·have hd:decide (v<0)=false:= decide_eq_false hneg
   generalize hD:(bs.length-q)/size= D at e2
   have HD:=Lib.hid hD
   clear hD
   by_cases hgt:(D:Int)<v
   ·have hd2:decide ((D:Int)<v)=true:= decide_eq_true hgt
    go_quiet (fail)
    go_wp2_with fail
    exact⟨rfl,(HQ.out _).1,.inr ⟨_,by(show bindP _ _=_);rw[HR.out];(show(if _ then _ else _)=_);rw[if_pos (.inr (by rw[HD.out];omega))],rfl⟩⟩
   ·have hd2:decide ((D:Int)<v)=false:= decide_eq_false hgt
    go_quiet (fail)
    go_wp2_with fail
    go_ret
    refine⟨(HQ.out _).1,.inl ⟨v.toNat,q,?_,?_,HC1.out.below (HQ.out _).2⟩⟩
    ·show bindP _ _=_
     rw[HR.out]
     show(if _ then _ else _)=_
     rw[if_neg (by rw[HD.out];omega)]
    ·rw[Int.toNat_of_nonneg (by omega)];rfl
 ·exact⟨rfl,HT1.out.inner (Turn.below (g:=g) (gx:=g) HB.out) (Nat.le_refl _)|>.mono (fun k _ e=>by rcases e with e|e| e;exact .inl e;exact .inl e;exact .inr e),.inr ⟨_,by(show bindP _ _=_);rw[HR.out];rfl,rfl⟩⟩
end Go.Proofs.YtfdmhpohfjbpfaaGreat
