import Derived.Test.YtfdmhpohfjbpfaaGreatSr22
set_option linter.unusedVariables false
set_option linter.unusedSimpArgs false
namespace Go.Proofs.YtfdmhpohfjbpfaaGreat
open Go.ChangeShapes Go.WideShapes Go.ChangeAt Go.RowKit
set_option maxRecDepth 100000
set_option maxHeartbeats 16000000
def Dn:cR:= ⟨1,1,1,1,1000,100,0,0,0,0,0,false,[]⟩
def nK:cR:= ⟨4,0,1,1,0,0,1,1,0,40,0,false,[]⟩
def Dm:cR:= ⟨2,1,2,2,0,0,0,0,0,0,0,false,[]⟩
def Mr(st:Int)(c:cR):iD:= ⟨1,2,st,0,gK c⟩
def wkL:List iD:=[Mr 0 Dn,Mr 50 nK,Mr 50 nK,Mr 50 Dm]
def PE:St:= ⟨1,50,2,[⟨1,1000,100,10000,false⟩],[⟨1,1,1,1,1,40,0⟩],[⟨1,2,⟨161,0,0,0,0⟩⟩],[⟨1,1,1,⟨0,1000,100,1,40⟩⟩]⟩
def Sw:List bS:=[⟨0,1000,100,0,0⟩,⟨0,1000,100,1,40⟩,⟨0,1000,100,1,40⟩,⟨161,0,0,0,0⟩]
theorem Sy:fV sN wkL=(PE,Sw):=by decide+kernel
theorem PF:zw Dn∧zw nK∧zw Dm:=⟨⟨⟨by decide,by decide⟩,by decide+kernel⟩,⟨⟨by decide,by decide⟩,by decide+kernel⟩,⟨⟨by decide,by decide⟩,by decide+kernel⟩⟩
theorem ac2:((Mr 0 Dn).data.length≤8000∧ eo (Mr 0 Dn).ag)∧((Mr 50 nK).data.length≤8000∧ eo (Mr 50 nK).ag)∧((Mr 50 Dm).data.length≤8000∧ eo (Mr 50 Dm).ag):=⟨⟨by decide+kernel,by show eo 0;unfold eo;omega⟩,⟨by decide+kernel,by show eo 50;unfold eo;omega⟩,⟨by decide+kernel,by show eo 50;unfold eo;omega⟩⟩
theorem Sz:Fits PE.ai:=(fun h=>bU (bI h).1 (bI h).2.1) (show cp PE=true by decide)
theorem VO:bX PE=true:= d_
theorem pL{w:World}{a:Option Addr}{k:Nat}{x:iD}(hr:iu w a x.data)(hk:x.data.length≤ k)(hl:x.data.length≤ 8000)(hi:eo x.ag):ky w (x,(a,k)):=⟨hr,hk,hl,hi⟩
theorem zB{r:Raw}:pE bA (Raw.cells r):=fun x o=>by
 by_cases h:o≤ 3
 ·refine⟨3-o,.int .i64 (match 3-o with|0=> x.e|1=> x.aK|2=> x.aq|_=> x.bW),?_,?_⟩
  ·match o,h with
   |0,_=>rfl
   |1,_=>rfl
   |2,_=>rfl
   |3,_=>rfl
  ·rw[show o+(3-o)=3 by omega];simp
 ·refine⟨4,.int .i64 x.size,rfl,?_⟩
  match o,h with
  |4,_=>simp
  |5,_=>simp
  |6,_=>simp
  |n+ 7,_=>simp
theorem VG {P:Prop}(h:P:=by
 refine hK.out _ _ eK.box.cs ?_;clear hK K;refine gH 9 (fun K hK=> ?_);go_simp;obtain⟨u6,fB⟩:∃y,y=u5.alloc (.cells (gq x1.term x1.kind x1.ag x1.set a1 x1.data.length k1 x2.term x2.kind x2.ag x2.set a2 x2.data.length k2 x2.term x2.kind x2.ag x2.set a3 x2.data.length k3 x3.term x3.kind x3.ag x3.set a4 x3.data.length k4) 45):=⟨_,rfl⟩;rw[←fB];have hb:Below u5.heap.size u5 u6:=by rw[fB];exact b_.alloc n_ _
 have hn0:bF rF u6 (some ⟨u5.heap.size,0,none⟩) [(x1,(a1,k1)),(x2,(a2,k2)),(x2,(a3,k3)),(x3,(a4,k4))]:=by rw[fB];exact Row.new u5 _ _ _
 replace aF:=h_ (aF.trans (hb.mono aF.size));replace eK:=h_ (eK.next hb);replace bq:=h_ (bq.below hb);replace lX:=h_ (lX.below hb);replace oq:=h_ (oq.below hb);replace po:=h_ (po.below hb);replace qX:=h_ (qX.below hb);replace HT:=h_ (HT.next hb);have HL:=h_ hn0;have hq5:=hb.size;clear hb fB hn0;refine hK.out _ _ eK.box.cs ?_;clear hK K;refine gH 10 (fun K hK=> ?_);go_simp;go_at_call 11
 with_reducible refine(vN.out u6 _ _ _ _ _ _ _ _ _ _ bq.out HL.out lX.out oq.out po.out qX.out).mono ?_
 rintro e u7 ⟨⟨s1,s2,s3,⟨f1,y1,z1⟩,⟨f2,y2,z2⟩,⟨f3,y3,z3⟩,⟨f4,y4,z4⟩⟩,af,cf,rfl,hst,hlr,hle,hb⟩;have Hu:=h_ hst;have Du:=h_ hlr;replace aF:=h_ (aF.trans (hb.mono aF.size));replace eK:=h_ (eK.next hb);replace lX:=h_ (lX.below hb);replace oq:=h_ (oq.below hb);replace po:=h_ (po.below hb);replace qX:=h_ (qX.below hb);replace HL:=h_ (bF.below HL.out hb);replace HT:=h_ (HT.next hb);have hq6:=hb.size;clear hst hlr hle hb bq HL lX oq po qX;refine hK.out _ _ eK.box.cs ?_;clear hK K;refine dx 11 ?_;refine dx 12 ?_;refine dx 13 ?_;refine gH 15 (fun K hK=> ?_);refine bK aG (.tmp 2) (.tmp 19) rfl gT ⟨s1,s2,s3,⟨f1,y1,z1⟩,⟨f2,y2,z2⟩,⟨f3,y3,z3⟩,⟨f4,y4,z4⟩⟩ _ rfl rfl HT.out rfl ?_;intro u8 hx hw;replace Hu:=h_ (Hu.wrote HT.out (bB _) hw);replace Du:=h_ (bF.gj Du.out HT.out zB (fun k _ hk=>hw.bY k hk));replace aF:=h_ (aF.trans (hw.below _ o_));replace eK:=h_ (eK.wrote hw o_);replace HT:=h_ hx;clear hx hw;refine hK.out _ _ eK.box.cs ?_;clear hK K;refine dx 16 ?_;refine vM ?_;go_wp2_with fail;go_meet
 exact⟨_,_,_,_,rfl,rfl,HT,Hu,Du,aF⟩):P:=h
theorem Zn {P:Prop}(h:P:=by
 refine hK.out _ _ eK.box.cs ?_;clear hK K;refine gH 6 (fun K hK=> ?_);go_simp;go_at_call 19
 with_reducible refine(Mu.out u3).mono ?_
 rintro e u4 ⟨⟨a3,k3⟩,rfl,hr,hk,hb⟩;unfold fw;replace aF:=h_ (aF.trans (hb.mono aF.size));replace eK:=h_ (eK.next hb);replace bq:=h_ (bq.below hb);replace lX:=h_ (lX.below hb);replace oq:=h_ (oq.below hb);replace HT:=h_ (HT.next hb);have po:=h_ (pL hr hk vT.2.1.1 vT.2.1.2);have Hf:=hb.size;clear hr hk hb;refine hK.out _ _ eK.box.cs ?_;clear hK K;refine gH 8 (fun K hK=> ?_);go_simp;go_at_call 19
 with_reducible refine(SF.out u4).mono ?_
 rintro e u5 ⟨⟨a4,k4⟩,rfl,hr,hk,hb⟩;unfold fw;replace aF:=h_ (aF.trans (hb.mono aF.size));replace eK:=h_ (eK.next hb);replace bq:=h_ (bq.below hb);replace lX:=h_ (lX.below hb);replace oq:=h_ (oq.below hb);replace po:=h_ (po.below hb);replace HT:=h_ (HT.next hb);have qX:=h_ (pL hr hk vT.2.2.1 vT.2.2.2);have hq4:=hb.size;clear hr hk hb
 exact VG):P:=h
theorem Zo {P:Prop}(h:P:=by
 refine hK.out _ _ eK.box.cs ?_;clear hK K;refine gH 4 (fun K hK=> ?_);go_simp;go_at_call 19
 with_reducible refine(Mu.out u2).mono ?_
 rintro e u3 ⟨⟨a2,k2⟩,rfl,hr,hk,hb⟩;unfold fw;replace aF:=h_ (aF.trans (hb.mono aF.size));replace eK:=h_ (eK.next hb);replace bq:=h_ (bq.below hb);replace lX:=h_ (lX.below hb);replace HT:=h_ (HT.next hb);have oq:=h_ (pL hr hk vT.2.1.1 vT.2.1.2);have hq2:=hb.size;clear hr hk hb
 exact Zn):P:=h
theorem Zp {P:Prop}(h:P:=by
 refine gH 15 (fun K hK=> ?_);refine bK aG (.tmp 2) (.tmp 19) rfl gT ⟨s1,s2,s3,⟨f1,y1,z1⟩,⟨f2,y2,z2⟩,⟨f3,y3,z3⟩,⟨f4,y4,z4⟩⟩ _ rfl rfl HT.out rfl ?_;intro u8 hx hw;replace Hu:=h_ (Hu.wrote HT.out (bB _) hw);replace Du:=h_ (bF.gj Du.out HT.out zB (fun k _ hk=>hw.bY k hk));replace aF:=h_ (aF.trans (hw.below _ o_));replace eK:=h_ (eK.wrote hw o_);replace HT:=h_ hx;clear hx hw;refine hK.out _ _ eK.box.cs ?_;clear hK K;refine dx 16 ?_;refine vM ?_;go_wp2_with fail;go_meet
 exact⟨_,_,_,_,rfl,rfl,HT,Hu,Du,aF⟩):P:=h
theorem Zq {P:Prop}(h:P:=by
 refine hK.out _ _ eK.box.cs ?_;clear hK K;refine gH 2 (fun K hK=> ?_);go_simp;go_at_call 19
 with_reducible refine(Bq.out u1).mono ?_
 rintro e u2 ⟨⟨a1,k1⟩,rfl,hr,hk,hb⟩;unfold fw;replace aF:=h_ (aF.trans (hb.mono aF.size));replace eK:=h_ (eK.next hb);replace bq:=h_ (bq.below hb);replace HT:=h_ (HT.next hb);have lX:=h_ (pL hr hk vT.1.1 vT.1.2);have hq1:=hb.size;clear hr hk hb
 exact Zo):P:=h
theorem Sn(w:World):Calls Tryz.prog 9 #[] w (fun e w'=>e= .returned (.bool true)∧Below w.heap.size w w'):=by
 obtain⟨x1,hx1⟩:∃x,x=Mr 0 Dn:=⟨_,rfl⟩;obtain⟨x2,hx2⟩:∃x,x=Mr 50 nK:=⟨_,rfl⟩;obtain⟨x3,hx3⟩:∃x,x=Mr 50 Dm:=⟨_,rfl⟩;have vT:Hid ((x1.data.length≤8000∧ eo x1.ag)∧(x2.data.length≤8000∧ eo x2.ag)∧(x3.data.length≤8000∧ eo x3.ag)):=h_ (by rw[hx1,hx2,hx3];exact ac2);have Bq:Hid (∀w',Calls Tryz.prog 19 #[.int .i64 0,.agg (bO 1 1 1 1 1000 100 0 0 0 0 0 false none 0 0)] w' (JK w' x1)):=h_ (fun w'=>by rw[hx1];exact DT 0 Dn w' rfl PF.1);have Mu:Hid (∀w',Calls Tryz.prog 19 #[.int .i64 50,.agg (bO 4 0 1 1 0 0 1 1 0 40 0 false none 0 0)] w' (JK w' x2)):=h_ (fun w'=>by rw[hx2];exact DT 50 nK w' rfl PF.2.1);have SF:Hid (∀w',Calls Tryz.prog 19 #[.int .i64 50,.agg (bO 2 1 2 2 0 0 0 0 0 0 0 false none 0 0)] w' (JK w' x3)):=h_ (fun w'=>by rw[hx3];exact DT 50 Dm w' rfl PF.2.2);have HEV:fV sN [x1,x2,x2,x3]=(PE,Sw):=by rw[hx1,hx2,hx3];exact Sy
 have vN:Hid (∀(w':World) (q:Raw) (a a1 a2 a3 a4:Option Addr) (k1 k2 k3 k4:Nat),aX w' 0 q sN→bF rF w' a [(x1,(a1,k1)),(x2,(a2,k2)),(x2,(a3,k3)),(x3,(a4,k4))]→ky w' (x1,(a1,k1))→ky w' (x2,(a2,k2))→ky w' (x2,(a3,k3))→ky w' (x3,(a4,k4))→Calls Tryz.prog 11 #[q.agg,.slice a 4 4] w' (tG w' (PE,Sw))):=
  h_ (fun w' q a a1 a2 a3 a4 k1 k2 k3 k4 hs hl h1 h2 h3 h4=>by
   rw[←HEV]
   exact DC sN q [(x1,(a1,k1)),(x2,(a2,k2)),(x2,(a3,k3)),(x3,(a4,k4))] a 4 4 w' hs ⟨by decide,by decide,by decide,by decide⟩ (by show eo 0;unfold eo;omega) rfl d_ hl (by
    intro y hy;simp only[List.mem_cons,List.not_mem_nil,or_false]at hy;rcases hy with rfl|rfl| rfl|rfl
    ·exact h1
    ·exact h2
    ·exact h3
    ·exact h4))
 clear hx1 hx2 hx3 HEV;go_enter Tryz.func9,Tryz.ntmps9;go_upto_region 2 with((with_reducible refine aO 54 (.tmp 1) (.tmp 6) ?_);refine au wN rfl (.tmp 1) (.tmp 6) rfl w.heap.size (nK,(none,0)) _ rfl rfl (ct.new _ _ _) rfl ?_;intro w1 hx hw;have eK:Hid (ct w1 w.heap.size (bO 4 0 1 1 0 0 1 1 0 40 0 false none 0 0)):=h_ hx;have aF:=h_ (((Below.refl w.heap.size w).alloc n_ _).trans (hw.below _ n_));have hz1:=hx.lt;clear hx hw);(try simp only[Act.put]);go_cut [2,3]from 6 to 20 (fun v2 v3 wx=>∃(g2:Nat) (q:Raw) (a:Option Addr) (k:Nat),.pointer (some ⟨g2,0,none⟩)=v2∧ .slice a 4 k=v3∧ Hid (ct wx g2 (Raw.cells q))∧Hid (aX wx 0 q PE)∧Hid (bF bA wx a Sw)∧Hid (Below w.heap.size w wx))
 case first=>
  refine xj (fun l w'=>Cs w' w.heap.size 0 (bO 4 0 1 1 0 0 1 1 0 40 0 false none 0 0)) ?_;refine wY eK.box.cs ?_;refine dx 1 ?_;refine dx 3 ?_;refine dx 5 ?_;refine dx 7 ?_;refine Pc 0 14 (fun K hK=> ?_) (fun K hK=> ?_)
  ·go_simp;go_at_call 10
   with_reducible refine(Ef w1.drew).mono ?_
   rintro e v1 ⟨⟨q1,q2,q3,⟨l1,j1,i1⟩,⟨l2,j2,i2⟩,⟨l3,j3,i3⟩,⟨l4,j4,i4⟩⟩,rfl,hst,hb⟩;replace hb:Below w1.heap.size w1 v1:=⟨hb.os,hb.tape,hb.output,hb.size,hb.block⟩;have bq:=h_ hst;replace aF:=h_ (aF.trans (hb.mono aF.size));replace eK:=h_ (eK.next hb);have hq0:=hb.size;clear hst hb;refine hK.out _ _ eK.box.cs ?_;clear hK K;refine Pc 2 14 (fun K hK=> ?_) (fun K hK=> ?_)
   ·go_simp;go_at_call 19
    with_reducible refine(Bq.out v1).mono ?_
    rintro e v2 ⟨⟨a1,k1⟩,rfl,hr,hk,hb⟩;unfold fw;replace aF:=h_ (aF.trans (hb.mono aF.size));replace eK:=h_ (eK.next hb);replace bq:=h_ (bq.below hb);have lX:=h_ (pL hr hk vT.1.1 vT.1.2);have hq1:=hb.size;clear hr hk hb;refine hK.out _ _ eK.box.cs ?_;clear hK K;refine Pc 4 14 (fun K hK=> ?_) (fun K hK=> ?_)
    ·go_simp;go_at_call 19
     with_reducible refine(Mu.out v2).mono ?_
     rintro e v3 ⟨⟨a2,k2⟩,rfl,hr,hk,hb⟩;unfold fw;replace aF:=h_ (aF.trans (hb.mono aF.size));replace eK:=h_ (eK.next hb);replace bq:=h_ (bq.below hb);replace lX:=h_ (lX.below hb);have oq:=h_ (pL hr hk vT.2.1.1 vT.2.1.2);have hq2:=hb.size;clear hr hk hb;refine hK.out _ _ eK.box.cs ?_;clear hK K;refine Pc 6 14 (fun K hK=> ?_) (fun K hK=> ?_)
     ·go_simp;go_at_call 19
      with_reducible refine(Mu.out v3).mono ?_
      rintro e v4 ⟨⟨a3,k3⟩,rfl,hr,hk,hb⟩;unfold fw;replace aF:=h_ (aF.trans (hb.mono aF.size));replace eK:=h_ (eK.next hb);replace bq:=h_ (bq.below hb);replace lX:=h_ (lX.below hb);replace oq:=h_ (oq.below hb);have po:=h_ (pL hr hk vT.2.1.1 vT.2.1.2);have Hf:=hb.size;clear hr hk hb;refine hK.out _ _ eK.box.cs ?_;clear hK K;refine Pc 8 14 (fun K hK=> ?_) (fun K hK=> ?_)
      ·go_simp;go_at_call 19
       with_reducible refine(SF.out v4).mono ?_
       rintro e v5 ⟨⟨a4,k4⟩,rfl,hr,hk,hb⟩;unfold fw;replace aF:=h_ (aF.trans (hb.mono aF.size));replace eK:=h_ (eK.next hb);replace bq:=h_ (bq.below hb);replace lX:=h_ (lX.below hb);replace oq:=h_ (oq.below hb);replace po:=h_ (po.below hb);have qX:=h_ (pL hr hk vT.2.2.1 vT.2.2.2);have hq4:=hb.size;clear hr hk hb;refine hK.out _ _ eK.box.cs ?_;clear hK K;refine Pc 9 14 (fun K hK=> ?_) (fun K hK=> ?_)
       ·go_simp;obtain⟨v6,fB⟩:∃y,y=v5.alloc (.cells (gq x1.term x1.kind x1.ag x1.set a1 x1.data.length k1 x2.term x2.kind x2.ag x2.set a2 x2.data.length k2 x2.term x2.kind x2.ag x2.set a3 x2.data.length k3 x3.term x3.kind x3.ag x3.set a4 x3.data.length k4) 45):=⟨_,rfl⟩;rw[←fB];have hb:Below v5.heap.size v5 v6:=by rw[fB];exact b_.alloc n_ _
        have hn0:bF rF v6 (some ⟨v5.heap.size,0,none⟩) [(x1,(a1,k1)),(x2,(a2,k2)),(x2,(a3,k3)),(x3,(a4,k4))]:=by rw[fB];exact Row.new v5 _ _ _
        replace aF:=h_ (aF.trans (hb.mono aF.size));replace eK:=h_ (eK.next hb);replace bq:=h_ (bq.below hb);replace lX:=h_ (lX.below hb);replace oq:=h_ (oq.below hb);replace po:=h_ (po.below hb);replace qX:=h_ (qX.below hb);have HL:=h_ hn0;have hq5:=hb.size;clear hb fB hn0;refine hK.out _ _ eK.box.cs ?_;clear hK K;refine Pc 10 14 (fun K hK=> ?_) (fun K hK=> ?_)
        ·go_simp;go_at_call 11
         with_reducible refine(vN.out v6 _ _ _ _ _ _ _ _ _ _ bq.out HL.out lX.out oq.out po.out qX.out).mono ?_
         rintro e v7 ⟨⟨s1,s2,s3,⟨f1,y1,z1⟩,⟨f2,y2,z2⟩,⟨f3,y3,z3⟩,⟨f4,y4,z4⟩⟩,af,cf,rfl,hst,hlr,hle,hb⟩;have Hu:=h_ hst;have Du:=h_ hlr;replace aF:=h_ (aF.trans (hb.mono aF.size));replace eK:=h_ (eK.next hb);replace lX:=h_ (lX.below hb);replace oq:=h_ (oq.below hb);replace po:=h_ (po.below hb);replace qX:=h_ (qX.below hb);replace HL:=h_ (bF.below HL.out hb);have hq6:=hb.size;clear hst hlr hle hb bq HL lX oq po qX;refine hK.out _ _ eK.box.cs ?_;clear hK K;refine dx 11 ?_;refine dx 12 ?_;refine dx 13 ?_;refine gH 14 (fun K hK=> ?_);go_simp;obtain⟨u7,fB⟩:∃y,y=v7.alloc (.cells aS 27):=⟨_,rfl⟩;rw[←fB];obtain⟨gT,tW⟩:∃g,g=v7.heap.size:= ⟨_,rfl⟩;rw[←tW];have hg0:w.heap.size< gT:=o_;have hb:Below v7.heap.size v7 u7:=by rw[fB];exact b_.alloc n_ _
         have hn0:ct u7 gT (Raw.cells ⟨0,0,0,⟨none,0,0⟩,⟨none,0,0⟩,⟨none,0,0⟩,⟨none,0,0⟩⟩):=by rw[fB,tW];exact ct.new v7 (Raw.cells ⟨0,0,0,⟨none,0,0⟩,⟨none,0,0⟩,⟨none,0,0⟩,⟨none,0,0⟩⟩) _
         replace aF:=h_ (aF.trans (hb.mono aF.size));replace eK:=h_ (eK.next hb);replace Hu:=h_ (Hu.below hb);replace Du:=h_ (bF.below Du.out hb);have HT:=h_ hn0;have U6:gT< u7.heap.size:=hn0.lt;clear hb fB hn0 tW;refine hK.out _ _ eK.box.cs ?_;clear hK K;exact Zp
        ·go_simp;obtain⟨u6,fB⟩:∃y,y=v6.alloc (.cells aS 27):=⟨_,rfl⟩;rw[←fB];obtain⟨gT,tW⟩:∃g,g=v6.heap.size:= ⟨_,rfl⟩;rw[←tW];have hg0:w.heap.size< gT:=o_;have hb:Below v6.heap.size v6 u6:=by rw[fB];exact b_.alloc n_ _
         have hn0:ct u6 gT (Raw.cells ⟨0,0,0,⟨none,0,0⟩,⟨none,0,0⟩,⟨none,0,0⟩,⟨none,0,0⟩⟩):=by rw[fB,tW];exact ct.new v6 (Raw.cells ⟨0,0,0,⟨none,0,0⟩,⟨none,0,0⟩,⟨none,0,0⟩,⟨none,0,0⟩⟩) _
         replace aF:=h_ (aF.trans (hb.mono aF.size));replace eK:=h_ (eK.next hb);replace bq:=h_ (bq.below hb);replace lX:=h_ (lX.below hb);replace oq:=h_ (oq.below hb);replace po:=h_ (po.below hb);replace qX:=h_ (qX.below hb);replace HL:=h_ (bF.below HL.out hb);have HT:=h_ hn0;have U6:gT< u6.heap.size:=hn0.lt;clear hb fB hn0 tW;refine hK.out _ _ eK.box.cs ?_;clear hK K;refine gH 10 (fun K hK=> ?_);go_simp;go_at_call 11
         with_reducible refine(vN.out u6 _ _ _ _ _ _ _ _ _ _ bq.out HL.out lX.out oq.out po.out qX.out).mono ?_
         rintro e u7 ⟨⟨s1,s2,s3,⟨f1,y1,z1⟩,⟨f2,y2,z2⟩,⟨f3,y3,z3⟩,⟨f4,y4,z4⟩⟩,af,cf,rfl,hst,hlr,hle,hb⟩;have Hu:=h_ hst;have Du:=h_ hlr;replace aF:=h_ (aF.trans (hb.mono aF.size));replace eK:=h_ (eK.next hb);replace lX:=h_ (lX.below hb);replace oq:=h_ (oq.below hb);replace po:=h_ (po.below hb);replace qX:=h_ (qX.below hb);replace HL:=h_ (bF.below HL.out hb);replace HT:=h_ (HT.next hb);have hq6:=hb.size;clear hst hlr hle hb bq HL lX oq po qX;refine hK.out _ _ eK.box.cs ?_;clear hK K;refine dx 11 ?_;refine dx 12 ?_;refine dx 13 ?_;exact Zp
       ·go_simp;obtain⟨u5,fB⟩:∃y,y=v5.alloc (.cells aS 27):=⟨_,rfl⟩;rw[←fB];obtain⟨gT,tW⟩:∃g,g=v5.heap.size:= ⟨_,rfl⟩;rw[←tW];have hg0:w.heap.size< gT:=o_;have hb:Below v5.heap.size v5 u5:=by rw[fB];exact b_.alloc n_ _
        have hn0:ct u5 gT (Raw.cells ⟨0,0,0,⟨none,0,0⟩,⟨none,0,0⟩,⟨none,0,0⟩,⟨none,0,0⟩⟩):=by rw[fB,tW];exact ct.new v5 (Raw.cells ⟨0,0,0,⟨none,0,0⟩,⟨none,0,0⟩,⟨none,0,0⟩,⟨none,0,0⟩⟩) _
        replace aF:=h_ (aF.trans (hb.mono aF.size));replace eK:=h_ (eK.next hb);replace bq:=h_ (bq.below hb);replace lX:=h_ (lX.below hb);replace oq:=h_ (oq.below hb);replace po:=h_ (po.below hb);replace qX:=h_ (qX.below hb);have HT:=h_ hn0;have U6:gT< u5.heap.size:=hn0.lt;clear hb fB hn0 tW;exact VG
      ·go_simp;obtain⟨u4,fB⟩:∃y,y=v4.alloc (.cells aS 27):=⟨_,rfl⟩;rw[←fB];obtain⟨gT,tW⟩:∃g,g=v4.heap.size:= ⟨_,rfl⟩;rw[←tW];have hg0:w.heap.size< gT:=o_;have hb:Below v4.heap.size v4 u4:=by rw[fB];exact b_.alloc n_ _
       have hn0:ct u4 gT (Raw.cells ⟨0,0,0,⟨none,0,0⟩,⟨none,0,0⟩,⟨none,0,0⟩,⟨none,0,0⟩⟩):=by rw[fB,tW];exact ct.new v4 (Raw.cells ⟨0,0,0,⟨none,0,0⟩,⟨none,0,0⟩,⟨none,0,0⟩,⟨none,0,0⟩⟩) _
       replace aF:=h_ (aF.trans (hb.mono aF.size));replace eK:=h_ (eK.next hb);replace bq:=h_ (bq.below hb);replace lX:=h_ (lX.below hb);replace oq:=h_ (oq.below hb);replace po:=h_ (po.below hb);have HT:=h_ hn0;have U6:gT< u4.heap.size:=hn0.lt;clear hb fB hn0 tW;refine hK.out _ _ eK.box.cs ?_;clear hK K;refine gH 8 (fun K hK=> ?_);go_simp;go_at_call 19
       with_reducible refine(SF.out u4).mono ?_
       rintro e u5 ⟨⟨a4,k4⟩,rfl,hr,hk,hb⟩;unfold fw;replace aF:=h_ (aF.trans (hb.mono aF.size));replace eK:=h_ (eK.next hb);replace bq:=h_ (bq.below hb);replace lX:=h_ (lX.below hb);replace oq:=h_ (oq.below hb);replace po:=h_ (po.below hb);replace HT:=h_ (HT.next hb);have qX:=h_ (pL hr hk vT.2.2.1 vT.2.2.2);have hq4:=hb.size;clear hr hk hb;exact VG
     ·go_simp;obtain⟨u3,fB⟩:∃y,y=v3.alloc (.cells aS 27):=⟨_,rfl⟩;rw[←fB];obtain⟨gT,tW⟩:∃g,g=v3.heap.size:= ⟨_,rfl⟩;rw[←tW];have hg0:w.heap.size< gT:=o_;have hb:Below v3.heap.size v3 u3:=by rw[fB];exact b_.alloc n_ _
      have hn0:ct u3 gT (Raw.cells ⟨0,0,0,⟨none,0,0⟩,⟨none,0,0⟩,⟨none,0,0⟩,⟨none,0,0⟩⟩):=by rw[fB,tW];exact ct.new v3 (Raw.cells ⟨0,0,0,⟨none,0,0⟩,⟨none,0,0⟩,⟨none,0,0⟩,⟨none,0,0⟩⟩) _
      replace aF:=h_ (aF.trans (hb.mono aF.size));replace eK:=h_ (eK.next hb);replace bq:=h_ (bq.below hb);replace lX:=h_ (lX.below hb);replace oq:=h_ (oq.below hb);have HT:=h_ hn0;have U6:gT< u3.heap.size:=hn0.lt;clear hb fB hn0 tW;exact Zn
    ·go_simp;obtain⟨u2,fB⟩:∃y,y=v2.alloc (.cells aS 27):=⟨_,rfl⟩;rw[←fB];obtain⟨gT,tW⟩:∃g,g=v2.heap.size:= ⟨_,rfl⟩;rw[←tW];have hg0:w.heap.size< gT:=o_;have hb:Below v2.heap.size v2 u2:=by rw[fB];exact b_.alloc n_ _
     have hn0:ct u2 gT (Raw.cells ⟨0,0,0,⟨none,0,0⟩,⟨none,0,0⟩,⟨none,0,0⟩,⟨none,0,0⟩⟩):=by rw[fB,tW];exact ct.new v2 (Raw.cells ⟨0,0,0,⟨none,0,0⟩,⟨none,0,0⟩,⟨none,0,0⟩,⟨none,0,0⟩⟩) _
     replace aF:=h_ (aF.trans (hb.mono aF.size));replace eK:=h_ (eK.next hb);replace bq:=h_ (bq.below hb);replace lX:=h_ (lX.below hb);have HT:=h_ hn0;have U6:gT< u2.heap.size:=hn0.lt;clear hb fB hn0 tW;exact Zo
   ·go_simp;obtain⟨u1,fB⟩:∃y,y=v1.alloc (.cells aS 27):=⟨_,rfl⟩;rw[←fB];obtain⟨gT,tW⟩:∃g,g=v1.heap.size:= ⟨_,rfl⟩;rw[←tW];have hg0:w.heap.size< gT:=o_;have hb:Below v1.heap.size v1 u1:=by rw[fB];exact b_.alloc n_ _
    have hn0:ct u1 gT (Raw.cells ⟨0,0,0,⟨none,0,0⟩,⟨none,0,0⟩,⟨none,0,0⟩,⟨none,0,0⟩⟩):=by rw[fB,tW];exact ct.new v1 (Raw.cells ⟨0,0,0,⟨none,0,0⟩,⟨none,0,0⟩,⟨none,0,0⟩,⟨none,0,0⟩⟩) _
    replace aF:=h_ (aF.trans (hb.mono aF.size));replace eK:=h_ (eK.next hb);replace bq:=h_ (bq.below hb);have HT:=h_ hn0;have U6:gT< u1.heap.size:=hn0.lt;clear hb fB hn0 tW;exact Zq
  ·go_simp;obtain⟨u0,fB⟩:∃y,y=(w1.alloc (.cells aS 27)).drew:=⟨_,rfl⟩;rw[←fB];obtain⟨gT,tW⟩:∃g,g=w1.heap.size:= ⟨_,rfl⟩;rw[←tW];have hg0:w.heap.size< gT:=o_;have hb:Below w1.heap.size w1 u0:=by rw[fB];exact(b_.alloc n_ _).drew
   have hn0:ct u0 gT (Raw.cells ⟨0,0,0,⟨none,0,0⟩,⟨none,0,0⟩,⟨none,0,0⟩,⟨none,0,0⟩⟩):=by rw[fB,tW];exact(ct.new w1 (Raw.cells ⟨0,0,0,⟨none,0,0⟩,⟨none,0,0⟩,⟨none,0,0⟩,⟨none,0,0⟩⟩) _).drew
   replace aF:=h_ (aF.trans (hb.mono aF.size));replace eK:=h_ (eK.next hb);have HT:=h_ hn0;have U6:gT< u0.heap.size:=hn0.lt;clear hb fB hn0 tW;refine hK.out _ _ eK.box.cs ?_;clear hK K;refine gH 0 (fun K hK=> ?_);go_simp;go_at_call 10
   with_reducible refine(Ef u0).mono ?_
   rintro e u1 ⟨⟨q1,q2,q3,⟨l1,j1,i1⟩,⟨l2,j2,i2⟩,⟨l3,j3,i3⟩,⟨l4,j4,i4⟩⟩,rfl,hst,hb⟩;have bq:=h_ hst;replace aF:=h_ (aF.trans (hb.mono aF.size));replace eK:=h_ (eK.next hb);replace HT:=h_ (HT.next hb);have hq0:=hb.size;clear hst hb;exact Zq
 case rest=>
  obtain⟨g2,⟨s1,s2,s3,⟨f1,y1,z1⟩,⟨f2,y2,z2⟩,⟨f3,y3,z3⟩,⟨f4,y4,z4⟩⟩,af,cf,rfl,rfl,HT,Hu,Du,aF⟩:=hcut;have uB:Hid (∀w',aX w' 0 ⟨s1,s2,s3,⟨f1,y1,z1⟩,⟨f2,y2,z2⟩,⟨f3,y3,z3⟩,⟨f4,y4,z4⟩⟩ PE→Calls Tryz.prog 20 #[Raw.agg ⟨s1,s2,s3,⟨f1,y1,z1⟩,⟨f2,y2,z2⟩,⟨f3,y3,z3⟩,⟨f4,y4,z4⟩⟩,.int .i64 1] w' (fun e w''=>e= .returned (.tuple (Kf 10000 40))∧Below w'.heap.size w' w'')):=h_ (fun w' hs=>Jx PE ⟨s1,s2,s3,⟨f1,y1,z1⟩,⟨f2,y2,z2⟩,⟨f3,y3,z3⟩,⟨f4,y4,z4⟩⟩ 0 1 w' hs Sz d_ d_ d_)
  have fZ:Hid (∀w',aX w' 0 ⟨s1,s2,s3,⟨f1,y1,z1⟩,⟨f2,y2,z2⟩,⟨f3,y3,z3⟩,⟨f4,y4,z4⟩⟩ PE→Calls Tryz.prog 21 #[Raw.agg ⟨s1,s2,s3,⟨f1,y1,z1⟩,⟨f2,y2,z2⟩,⟨f3,y3,z3⟩,⟨f4,y4,z4⟩⟩] w' (fun e w''=>e= .returned (.bool true)∧Below w'.heap.size w' w'')):=h_ (fun w' hs=>by
   have h:=wj PE ⟨s1,s2,s3,⟨f1,y1,z1⟩,⟨f2,y2,z2⟩,⟨f3,y3,z3⟩,⟨f4,y4,z4⟩⟩ 0 w' hs d_ d_ d_ d_;rw[VO]at h
   exact h)
  go_upto_region 6 with(first|((with_reducible refine bC 27 (.tmp 2) ?_);refine aa aG rfl (.tmp 2) rfl g2 0 rfl ⟨s1,s2,s3,⟨f1,y1,z1⟩,⟨f2,y2,z2⟩,⟨f3,y3,z3⟩,⟨f4,y4,z4⟩⟩ (Raw.agg ⟨s1,s2,s3,⟨f1,y1,z1⟩,⟨f2,y2,z2⟩,⟨f3,y3,z3⟩,⟨f4,y4,z4⟩⟩) rfl HT.box.range ?_)|(go_at_call 20;((with_reducible refine(uB.out _ Hu.out).mono ?_);rintro e w3 ⟨rfl,hb⟩;replace aF:=h_ (aF.trans (hb.mono aF.size));replace HT:=h_ (HT.next hb);replace Hu:=h_ (Hu.below hb);replace Du:=h_ (bF.below Du.out hb);clear hb uB)));(try simp only[Act.put]);obtain⟨b,o,rfl,hcs⟩:=bF.range Du.out (show 0<Sw.length by decide)
  have HAC:Hid (∀w',Below w3.heap.size w3 w'→(w'.cell? ⟨b,o,none⟩=some (.int .i64 0)∧w'.cell? ⟨b,o+1,none⟩=some (.int .i64 1000)∧w'.cell? ⟨b,o+2,none⟩=some (.int .i64 100)∧w'.cell? ⟨b,o+3,none⟩=some (.int .i64 0)∧w'.cell? ⟨b,o+4,none⟩=some (.int .i64 0)∧w'.cell? ⟨b,o+5,none⟩=some (.int .i64 0)∧w'.cell? ⟨b,o+5+ 1,none⟩=some (.int .i64 1000)∧w'.cell? ⟨b,o+5+ 2,none⟩=some (.int .i64 100)∧w'.cell? ⟨b,o+5+ 3,none⟩=some (.int .i64 1)∧w'.cell? ⟨b,o+5+ 4,none⟩=some (.int .i64 40)∧w'.cell? ⟨b,o+10,none⟩=some (.int .i64 0)∧w'.cell? ⟨b,o+10+ 1,none⟩=some (.int .i64 1000)∧w'.cell? ⟨b,o+10+ 2,none⟩=some (.int .i64 100)∧w'.cell? ⟨b,o+10+ 3,none⟩=some (.int .i64 1)∧w'.cell? ⟨b,o+10+ 4,none⟩=some (.int .i64 40)∧w'.cell? ⟨b,o+15,none⟩=some (.int .i64 161)∧w'.cell? ⟨b,o+15+ 1,none⟩=some (.int .i64 0)∧w'.cell? ⟨b,o+15+ 2,none⟩=some (.int .i64 0)∧w'.cell? ⟨b,o+15+ 3,none⟩=some (.int .i64 0)∧w'.cell? ⟨b,o+15+ 4,none⟩=some (.int .i64 0))):=h_ (fun w' hb=>by
   have hl:=bF.below Du.out hb;obtain⟨b0,o0,e0,r0⟩:=bF.range hl (show 0<Sw.length by decide);obtain⟨b1,o1,e1,r1⟩:=bF.range hl (show 1<Sw.length by decide);obtain⟨b2,o2,e2,r2⟩:=bF.range hl (show 2<Sw.length by decide);obtain⟨b3,o3,e3,r3⟩:=bF.range hl (show 3<Sw.length by decide);cases e0;cases e1;cases e2;cases e3
   replace r0:=r0 w' b_;replace r1:=r1 w' b_;replace r2:=r2 w' b_;replace r3:=r3 w' b_
   exact⟨r0 0 _ rfl,r0 1 _ rfl,r0 2 _ rfl,r0 3 _ rfl,r0 4 _ rfl,r1 0 _ rfl,r1 1 _ rfl,r1 2 _ rfl,r1 3 _ rfl,r1 4 _ rfl,r2 0 _ rfl,r2 1 _ rfl,r2 2 _ rfl,r2 3 _ rfl,r2 4 _ rfl,r3 0 _ rfl,r3 1 _ rfl,r3 2 _ rfl,r3 3 _ rfl,r3 4 _ rfl⟩)
  have kX:Hid (Below w3.heap.size w3 w3):=Below.refl _ _;clear hcs Du;refine xj (fun l w'=>((w'.cell? ⟨b,o,none⟩=some (.int .i64 0)∧w'.cell? ⟨b,o+1,none⟩=some (.int .i64 1000)∧w'.cell? ⟨b,o+2,none⟩=some (.int .i64 100)∧w'.cell? ⟨b,o+3,none⟩=some (.int .i64 0)∧w'.cell? ⟨b,o+4,none⟩=some (.int .i64 0)∧w'.cell? ⟨b,o+5,none⟩=some (.int .i64 0)∧w'.cell? ⟨b,o+5+ 1,none⟩=some (.int .i64 1000)∧w'.cell? ⟨b,o+5+ 2,none⟩=some (.int .i64 100)∧w'.cell? ⟨b,o+5+ 3,none⟩=some (.int .i64 1)∧w'.cell? ⟨b,o+5+ 4,none⟩=some (.int .i64 40)∧w'.cell? ⟨b,o+10,none⟩=some (.int .i64 0)∧w'.cell? ⟨b,o+10+ 1,none⟩=some (.int .i64 1000)∧w'.cell? ⟨b,o+10+ 2,none⟩=some (.int .i64 100)∧w'.cell? ⟨b,o+10+ 3,none⟩=some (.int .i64 1)∧w'.cell? ⟨b,o+10+ 4,none⟩=some (.int .i64 40)∧w'.cell? ⟨b,o+15,none⟩=some (.int .i64 161)∧w'.cell? ⟨b,o+15+ 1,none⟩=some (.int .i64 0)∧w'.cell? ⟨b,o+15+ 2,none⟩=some (.int .i64 0)∧w'.cell? ⟨b,o+15+ 3,none⟩=some (.int .i64 0)∧w'.cell? ⟨b,o+15+ 4,none⟩=some (.int .i64 0))∧(w'.cell? ⟨g2,0,none⟩=some (.int .i64 s1)∧w'.cell? ⟨g2,1,none⟩=some (.int .i64 s2)∧w'.cell? ⟨g2,2,none⟩=some (.int .i64 s3)∧w'.cell? ⟨g2,3,none⟩=some (.slice f1 y1 z1)∧w'.cell? ⟨g2,4,none⟩=some (.slice f2 y2 z2)∧w'.cell? ⟨g2,5,none⟩=some (.slice f3 y3 z3)∧w'.cell? ⟨g2,6,none⟩=some (.slice f4 y4 z4)))) ?_;refine wY ⟨HAC.out _ (kX.drew),HT.drew.box.cell (j:=0) rfl,HT.drew.box.cell (j:=1) rfl,HT.drew.box.cell (j:=2) rfl,HT.drew.box.cell (j:=3) rfl,HT.drew.box.cell (j:=4) rfl,HT.drew.box.cell (j:=5) rfl,HT.drew.box.cell (j:=6) rfl⟩ ?_;refine dx 0 ?_;refine dx 1 ?_;refine dx 2 ?_;refine dx 3 ?_;refine dx 4 ?_;refine dx 5 ?_;refine dx 6 ?_;refine dx 7 ?_;refine dx 8 ?_;refine dx 9 ?_;refine dx 10 ?_;refine dx 11 ?_;refine dx 12 ?_;refine dx 13 ?_;refine dx 14 ?_;refine dx 15 ?_;refine dx 16 ?_;refine dx 17 ?_;refine dx 18 ?_;refine dx 19 ?_;refine dx 20 ?_;refine dx 21 ?_;refine dx 22 ?_;refine dx 23 ?_;refine dx 24 ?_;refine dx 25 ?_;refine dx 26 ?_;refine dx 27 ?_;refine dx 28 ?_;refine dx 29 ?_;refine dx 30 ?_;refine dx 31 ?_;refine dx 32 ?_;refine dx 33 ?_;refine dx 34 ?_;refine dx 35 ?_;refine dx 36 ?_;refine dx 37 ?_;refine gH 38 (fun K hK=> ?_);go_simp;go_at_call 21
  with_reducible refine(fZ.out w3.drew (Hu.out.below (b_.drew))).mono ?_
  rintro e w4 ⟨rfl,hb⟩;replace hb:Below w3.heap.size w3 w4:=⟨hb.os,hb.tape,hb.output,hb.size,hb.block⟩;replace aF:=h_ (aF.trans (hb.mono aF.size));replace kX:Hid (Below w3.heap.size w3 w4):=hb;replace HT:=h_ (HT.next hb);clear hb;refine hK.out _ _ ⟨HAC.out _ kX.out,HT.box.cell (j:=0) rfl,HT.box.cell (j:=1) rfl,HT.box.cell (j:=2) rfl,HT.box.cell (j:=3) rfl,HT.box.cell (j:=4) rfl,HT.box.cell (j:=5) rfl,HT.box.cell (j:=6) rfl⟩ ?_;clear hK K;refine dx 39 ?_;refine dx 40 ?_;refine vM ?_;go_wp2_with fail;go_returns;exact⟨rfl,aF.out⟩
end Go.Proofs.YtfdmhpohfjbpfaaGreat
