import Derived.Test.YtfdmhpohfjbpfaaGreatSq19
set_option linter.unusedVariables false
set_option linter.unusedSimpArgs false
namespace Go.Proofs.YtfdmhpohfjbpfaaGreat
open Go.ChangeShapes Go.WideShapes Go.ChangeAt Go.RowKit
set_option maxRecDepth 100000
def wkPut:WCmd:= ⟨1,1,1,1,1000,100,0,0,0,0,0,false,[]⟩
def wkGrant:WCmd:= ⟨4,0,1,1,0,0,1,1,0,40,0,false,[]⟩
def wkGet:WCmd:= ⟨2,1,2,2,0,0,0,0,0,0,0,false,[]⟩
def wkE (st:Int) (c:WCmd):WEnt:= ⟨1,2,st,0,encWCmd c⟩
def wkL:List WEnt:=[wkE 0 wkPut,wkE 50 wkGrant,wkE 50 wkGrant,wkE 50 wkGet]
def wkS:St:= ⟨1,50,2,[⟨1,1000,100,10000,false⟩],[⟨1,1,1,1,1,40,0⟩],[⟨1,2,⟨161,0,0,0,0⟩⟩],[⟨1,1,1,⟨0,1000,100,1,40⟩⟩]⟩
def wkA:List Ans:=[⟨0,1000,100,0,0⟩,⟨0,1000,100,1,40⟩,⟨0,1000,100,1,40⟩,⟨161,0,0,0,0⟩]
theorem wk_eval:allS newS wkL=(wkS,wkA):=by decide+kernel
theorem wk_ok:OkCmd wkPut∧OkCmd wkGrant∧OkCmd wkGet:=⟨⟨⟨by decide,by decide⟩,by decide+kernel⟩,⟨⟨by decide,by decide⟩,by decide+kernel⟩,⟨⟨by decide,by decide⟩,by decide+kernel⟩⟩
theorem wk_x:((wkE 0 wkPut).data.length≤8000∧ InI (wkE 0 wkPut).stamp)∧((wkE 50 wkGrant).data.length≤8000∧ InI (wkE 50 wkGrant).stamp)∧((wkE 50 wkGet).data.length≤8000∧ InI (wkE 50 wkGet).stamp):=⟨⟨by decide+kernel,by show InI 0;unfold InI;omega⟩,⟨by decide+kernel,by show InI 50;unfold InI;omega⟩,⟨by decide+kernel,by show InI 50;unfold InI;omega⟩⟩
theorem wk_fits:Fits wkS.leas:=(fun h=>leasOk_fits (stOk_parts h).1 (stOk_parts h).2.1) (show stOk wkS=true by decide)
theorem wk_sok:stateOk wkS=true:= by decide
theorem ent_in {w:World} {a:Option Addr} {k:Nat} {x:WEnt} (hr:RowB w a x.data) (hk:x.data.length≤ k) (hl:x.data.length≤ 8000) (hi:InI x.stamp):EntIn19 w (x,(a,k)):=⟨hr,hk,hl,hi⟩
theorem ans_misfit {r:Raw}:Misfit layAns (Raw.cells r):=fun x o=>by
 by_cases h:o≤ 3
 ·refine⟨3-o,.int .i64 (match 3-o with|0=> x.e|1=> x.rate|2=> x.burst|_=> x.lease),?_,?_⟩
  ·match o,h with
   |0,_=>rfl
   |1,_=>rfl
   |2,_=>rfl
   |3,_=>rfl
  ·rw[show o+(3-o)=3 by omega]
   simp
 ·refine⟨4,.int .i64 x.size,rfl,?_⟩
  match o,h with
  |4,_=>simp
  |5,_=>simp
  |6,_=>simp
  |n+ 7,_=>simp
set_option maxHeartbeats 8000000 in
theorem wakes19 (w:World):Calls Tryz.prog 9 #[] w (fun e w'=>e= .returned (.bool true)∧Below w.heap.size w w'):=by
 obtain⟨x1,hx1⟩:∃x,x=wkE 0 wkPut:=⟨_,rfl⟩
 obtain⟨x2,hx2⟩:∃x,x=wkE 50 wkGrant:=⟨_,rfl⟩
 obtain⟨x3,hx3⟩:∃x,x=wkE 50 wkGet:=⟨_,rfl⟩
 have HXO:Hid ((x1.data.length≤8000∧ InI x1.stamp)∧(x2.data.length≤8000∧ InI x2.stamp)∧(x3.data.length≤8000∧ InI x3.stamp)):=Lib.hid (by rw[hx1,hx2,hx3];exact wk_x)
 have HE1:Hid (∀w',Calls Tryz.prog 19 #[.int .i64 0,.agg #[.int .i8 1,.int .i64 1,.int .i64 1,.int .i64 1,.int .i64 1000,.int .i64 100,.int .i64 0,.int .i64 0,.int .i64 0,.int .i64 0,.int .i64 0,.bool false,.slice none 0 0]] w' (RetEn w' x1)):=Lib.hid (fun w'=>by rw[hx1];exact entry19 0 wkPut w' rfl wk_ok.1)
 have HE2:Hid (∀w',Calls Tryz.prog 19 #[.int .i64 50,.agg #[.int .i8 4,.int .i64 0,.int .i64 1,.int .i64 1,.int .i64 0,.int .i64 0,.int .i64 1,.int .i64 1,.int .i64 0,.int .i64 40,.int .i64 0,.bool false,.slice none 0 0]] w' (RetEn w' x2)):=Lib.hid (fun w'=>by rw[hx2];exact entry19 50 wkGrant w' rfl wk_ok.2.1)
 have HE3:Hid (∀w',Calls Tryz.prog 19 #[.int .i64 50,.agg #[.int .i8 2,.int .i64 1,.int .i64 2,.int .i64 2,.int .i64 0,.int .i64 0,.int .i64 0,.int .i64 0,.int .i64 0,.int .i64 0,.int .i64 0,.bool false,.slice none 0 0]] w' (RetEn w' x3)):=Lib.hid (fun w'=>by rw[hx3];exact entry19 50 wkGet w' rfl wk_ok.2.2)
 have HEV:allS newS [x1,x2,x2,x3]=(wkS,wkA):=by rw[hx1,hx2,hx3];exact wk_eval
 have HAL:Hid (∀(w':World) (q:Raw) (a a1 a2 a3 a4:Option Addr) (k1 k2 k3 k4:Nat),StAt w' 0 q newS→LRow layRw w' a [(x1,(a1,k1)),(x2,(a2,k2)),(x2,(a3,k3)),(x3,(a4,k4))]→EntIn19 w' (x1,(a1,k1))→EntIn19 w' (x2,(a2,k2))→EntIn19 w' (x2,(a3,k3))→EntIn19 w' (x3,(a4,k4))→Calls Tryz.prog 11 #[q.agg,.slice a 4 4] w' (RetAll w' (wkS,wkA))):=
  Lib.hid (fun w' q a a1 a2 a3 a4 k1 k2 k3 k4 hs hl h1 h2 h3 h4=>by
   rw[←HEV]
   exact all_any newS q [(x1,(a1,k1)),(x2,(a2,k2)),(x2,(a3,k3)),(x3,(a4,k4))] a 4 4 w' hs ⟨by decide,by decide,by decide,by decide⟩ (by show InI 0;unfold InI;omega) rfl (by decide) hl (by
    intro y hy
    simp only[List.mem_cons,List.not_mem_nil,or_false]at hy
    rcases hy with rfl|rfl| rfl|rfl
    ·exact h1
    ·exact h2
    ·exact h3
    ·exact h4))
 clear hx1 hx2 hx3 HEV
 go_enter Tryz.func9,Tryz.ntmps9
 go_upto_region 2 with((with_reducible refine at_store 54 (.tmp 1) (.tmp 6) ?_);refine wpList_store_bex layCmd rfl (.tmp 1) (.tmp 6) rfl w.heap.size (wkGrant,(none,0)) _ rfl rfl (Bex.new _ _ _) rfl ?_;intro w1 hx hw;have HC1:Hid (Bex w1 w.heap.size [.int .i8 4,.int .i64 0,.int .i64 1,.int .i64 1,.int .i64 0,.int .i64 0,.int .i64 1,.int .i64 1,.int .i64 0,.int .i64 40,.int .i64 0,.bool false,.slice none 0 0]):=Lib.hid hx;have HBx:=Lib.hid (((Below.refl w.heap.size w).alloc (Nat.le_refl _) _).trans (hw.below _ (Nat.le_refl _)));have hz1:=hx.lt;clear hx hw)
 (try simp only[Act.put])
 go_cut [2,3]from 6 to 20 (fun v2 v3 wx=>∃(g2:Nat) (q:Raw) (a:Option Addr) (k:Nat),.pointer (some ⟨g2,0,none⟩)=v2∧ .slice a 4 k=v3∧ Hid (Bex wx g2 (Raw.cells q))∧Hid (StAt wx 0 q wkS)∧Hid (LRow layAns wx a wkA)∧Hid (Below w.heap.size w wx))
 case first=>
  refine wrq (fun l w'=>(w'.cell? ⟨w.heap.size,0,none⟩=some (.int .i8 4)∧w'.cell? ⟨w.heap.size,1,none⟩=some (.int .i64 0)∧w'.cell? ⟨w.heap.size,2,none⟩=some (.int .i64 1)∧w'.cell? ⟨w.heap.size,3,none⟩=some (.int .i64 1)∧w'.cell? ⟨w.heap.size,4,none⟩=some (.int .i64 0)∧w'.cell? ⟨w.heap.size,5,none⟩=some (.int .i64 0)∧w'.cell? ⟨w.heap.size,6,none⟩=some (.int .i64 1)∧w'.cell? ⟨w.heap.size,7,none⟩=some (.int .i64 1)∧w'.cell? ⟨w.heap.size,8,none⟩=some (.int .i64 0)∧w'.cell? ⟨w.heap.size,9,none⟩=some (.int .i64 40)∧w'.cell? ⟨w.heap.size,10,none⟩=some (.int .i64 0)∧w'.cell? ⟨w.heap.size,11,none⟩=some (.bool false)∧w'.cell? ⟨w.heap.size,12,none⟩=some (.slice none 0 0))) ?_
  refine toS ⟨HC1.out.box.cell (j:=0) rfl,HC1.out.box.cell (j:=1) rfl,HC1.out.box.cell (j:=2) rfl,HC1.out.box.cell (j:=3) rfl,HC1.out.box.cell (j:=4) rfl,HC1.out.box.cell (j:=5) rfl,HC1.out.box.cell (j:=6) rfl,HC1.out.box.cell (j:=7) rfl,HC1.out.box.cell (j:=8) rfl,HC1.out.box.cell (j:=9) rfl,HC1.out.box.cell (j:=10) rfl,HC1.out.box.cell (j:=11) rfl,HC1.out.box.cell (j:=12) rfl⟩ ?_
  refine tkq 1 ?_
  refine tkq 3 ?_
  refine tkq 5 ?_
  refine tkq 7 ?_
  refine s2q 0 14 (fun K hK=> ?_) (fun K hK=> ?_)
  ·go_simp
   go_at_call 10
   with_reducible refine(new_any w1.drew).mono ?_
   rintro e v1 ⟨⟨q1,q2,q3,⟨l1,j1,i1⟩,⟨l2,j2,i2⟩,⟨l3,j3,i3⟩,⟨l4,j4,i4⟩⟩,rfl,hst,hb⟩
   replace hb:Below w1.heap.size w1 v1:=⟨hb.os,hb.tape,hb.output,hb.size,hb.block⟩
   have HSx:=Lib.hid hst
   replace HBx:=Lib.hid (HBx.out.trans (hb.mono HBx.out.size))
   replace HC1:=Lib.hid (HC1.out.next hb)
   have hq0:=hb.size
   clear hst hb
   refine hK.out _ _ ⟨HC1.out.box.cell (j:=0) rfl,HC1.out.box.cell (j:=1) rfl,HC1.out.box.cell (j:=2) rfl,HC1.out.box.cell (j:=3) rfl,HC1.out.box.cell (j:=4) rfl,HC1.out.box.cell (j:=5) rfl,HC1.out.box.cell (j:=6) rfl,HC1.out.box.cell (j:=7) rfl,HC1.out.box.cell (j:=8) rfl,HC1.out.box.cell (j:=9) rfl,HC1.out.box.cell (j:=10) rfl,HC1.out.box.cell (j:=11) rfl,HC1.out.box.cell (j:=12) rfl⟩ ?_
   clear hK K
   refine s2q 2 14 (fun K hK=> ?_) (fun K hK=> ?_)
   ·go_simp
    go_at_call 19
    with_reducible refine(HE1.out v1).mono ?_
    rintro e v2 ⟨⟨a1,k1⟩,rfl,hr,hk,hb⟩
    unfold valEnt
    replace HBx:=Lib.hid (HBx.out.trans (hb.mono HBx.out.size))
    replace HC1:=Lib.hid (HC1.out.next hb)
    replace HSx:=Lib.hid (HSx.out.below hb)
    have HR1:=Lib.hid (ent_in hr hk HXO.out.1.1 HXO.out.1.2)
    have hq1:=hb.size
    clear hr hk hb
    refine hK.out _ _ ⟨HC1.out.box.cell (j:=0) rfl,HC1.out.box.cell (j:=1) rfl,HC1.out.box.cell (j:=2) rfl,HC1.out.box.cell (j:=3) rfl,HC1.out.box.cell (j:=4) rfl,HC1.out.box.cell (j:=5) rfl,HC1.out.box.cell (j:=6) rfl,HC1.out.box.cell (j:=7) rfl,HC1.out.box.cell (j:=8) rfl,HC1.out.box.cell (j:=9) rfl,HC1.out.box.cell (j:=10) rfl,HC1.out.box.cell (j:=11) rfl,HC1.out.box.cell (j:=12) rfl⟩ ?_
    clear hK K
    refine s2q 4 14 (fun K hK=> ?_) (fun K hK=> ?_)
    ·go_simp
     go_at_call 19
     with_reducible refine(HE2.out v2).mono ?_
     rintro e v3 ⟨⟨a2,k2⟩,rfl,hr,hk,hb⟩
     unfold valEnt
     replace HBx:=Lib.hid (HBx.out.trans (hb.mono HBx.out.size))
     replace HC1:=Lib.hid (HC1.out.next hb)
     replace HSx:=Lib.hid (HSx.out.below hb)
     replace HR1:=Lib.hid (HR1.out.below hb)
     have HR2:=Lib.hid (ent_in hr hk HXO.out.2.1.1 HXO.out.2.1.2)
     have hq2:=hb.size
     clear hr hk hb
     refine hK.out _ _ ⟨HC1.out.box.cell (j:=0) rfl,HC1.out.box.cell (j:=1) rfl,HC1.out.box.cell (j:=2) rfl,HC1.out.box.cell (j:=3) rfl,HC1.out.box.cell (j:=4) rfl,HC1.out.box.cell (j:=5) rfl,HC1.out.box.cell (j:=6) rfl,HC1.out.box.cell (j:=7) rfl,HC1.out.box.cell (j:=8) rfl,HC1.out.box.cell (j:=9) rfl,HC1.out.box.cell (j:=10) rfl,HC1.out.box.cell (j:=11) rfl,HC1.out.box.cell (j:=12) rfl⟩ ?_
     clear hK K
     refine s2q 6 14 (fun K hK=> ?_) (fun K hK=> ?_)
     ·go_simp
      go_at_call 19
      with_reducible refine(HE2.out v3).mono ?_
      rintro e v4 ⟨⟨a3,k3⟩,rfl,hr,hk,hb⟩
      unfold valEnt
      replace HBx:=Lib.hid (HBx.out.trans (hb.mono HBx.out.size))
      replace HC1:=Lib.hid (HC1.out.next hb)
      replace HSx:=Lib.hid (HSx.out.below hb)
      replace HR1:=Lib.hid (HR1.out.below hb)
      replace HR2:=Lib.hid (HR2.out.below hb)
      have HR3:=Lib.hid (ent_in hr hk HXO.out.2.1.1 HXO.out.2.1.2)
      have hq3:=hb.size
      clear hr hk hb
      refine hK.out _ _ ⟨HC1.out.box.cell (j:=0) rfl,HC1.out.box.cell (j:=1) rfl,HC1.out.box.cell (j:=2) rfl,HC1.out.box.cell (j:=3) rfl,HC1.out.box.cell (j:=4) rfl,HC1.out.box.cell (j:=5) rfl,HC1.out.box.cell (j:=6) rfl,HC1.out.box.cell (j:=7) rfl,HC1.out.box.cell (j:=8) rfl,HC1.out.box.cell (j:=9) rfl,HC1.out.box.cell (j:=10) rfl,HC1.out.box.cell (j:=11) rfl,HC1.out.box.cell (j:=12) rfl⟩ ?_
      clear hK K
      refine s2q 8 14 (fun K hK=> ?_) (fun K hK=> ?_)
      ·go_simp
       go_at_call 19
       with_reducible refine(HE3.out v4).mono ?_
       rintro e v5 ⟨⟨a4,k4⟩,rfl,hr,hk,hb⟩
       unfold valEnt
       replace HBx:=Lib.hid (HBx.out.trans (hb.mono HBx.out.size))
       replace HC1:=Lib.hid (HC1.out.next hb)
       replace HSx:=Lib.hid (HSx.out.below hb)
       replace HR1:=Lib.hid (HR1.out.below hb)
       replace HR2:=Lib.hid (HR2.out.below hb)
       replace HR3:=Lib.hid (HR3.out.below hb)
       have HR4:=Lib.hid (ent_in hr hk HXO.out.2.2.1 HXO.out.2.2.2)
       have hq4:=hb.size
       clear hr hk hb
       refine hK.out _ _ ⟨HC1.out.box.cell (j:=0) rfl,HC1.out.box.cell (j:=1) rfl,HC1.out.box.cell (j:=2) rfl,HC1.out.box.cell (j:=3) rfl,HC1.out.box.cell (j:=4) rfl,HC1.out.box.cell (j:=5) rfl,HC1.out.box.cell (j:=6) rfl,HC1.out.box.cell (j:=7) rfl,HC1.out.box.cell (j:=8) rfl,HC1.out.box.cell (j:=9) rfl,HC1.out.box.cell (j:=10) rfl,HC1.out.box.cell (j:=11) rfl,HC1.out.box.cell (j:=12) rfl⟩ ?_
       clear hK K
       refine s2q 9 14 (fun K hK=> ?_) (fun K hK=> ?_)
       ·go_simp
        obtain⟨v6,hwa⟩:∃y,y=v5.alloc (.cells #[.int .i64 x1.term,.int .i8 x1.kind,.int .i64 x1.stamp,B x1.set,.slice a1 x1.data.length k1,.int .i64 x2.term,.int .i8 x2.kind,.int .i64 x2.stamp,B x2.set,.slice a2 x2.data.length k2,.int .i64 x2.term,.int .i8 x2.kind,.int .i64 x2.stamp,B x2.set,.slice a3 x2.data.length k3,.int .i64 x3.term,.int .i8 x3.kind,.int .i64 x3.stamp,B x3.set,.slice a4 x3.data.length k4] 45):=⟨_,rfl⟩
        rw[←hwa]
        have hb:Below v5.heap.size v5 v6:=by rw[hwa];exact(Below.refl _ _).alloc (Nat.le_refl _) _
        have hn0:LRow layRw v6 (some ⟨v5.heap.size,0,none⟩) [(x1,(a1,k1)),(x2,(a2,k2)),(x2,(a3,k3)),(x3,(a4,k4))]:=by rw[hwa];exact Row.new v5 _ _ _
        replace HBx:=Lib.hid (HBx.out.trans (hb.mono HBx.out.size))
        replace HC1:=Lib.hid (HC1.out.next hb)
        replace HSx:=Lib.hid (HSx.out.below hb)
        replace HR1:=Lib.hid (HR1.out.below hb)
        replace HR2:=Lib.hid (HR2.out.below hb)
        replace HR3:=Lib.hid (HR3.out.below hb)
        replace HR4:=Lib.hid (HR4.out.below hb)
        have HL:=Lib.hid hn0
        have hq5:=hb.size
        clear hb hwa hn0
        refine hK.out _ _ ⟨HC1.out.box.cell (j:=0) rfl,HC1.out.box.cell (j:=1) rfl,HC1.out.box.cell (j:=2) rfl,HC1.out.box.cell (j:=3) rfl,HC1.out.box.cell (j:=4) rfl,HC1.out.box.cell (j:=5) rfl,HC1.out.box.cell (j:=6) rfl,HC1.out.box.cell (j:=7) rfl,HC1.out.box.cell (j:=8) rfl,HC1.out.box.cell (j:=9) rfl,HC1.out.box.cell (j:=10) rfl,HC1.out.box.cell (j:=11) rfl,HC1.out.box.cell (j:=12) rfl⟩ ?_
        clear hK K
        refine s2q 10 14 (fun K hK=> ?_) (fun K hK=> ?_)
        ·go_simp
         go_at_call 11
         with_reducible refine(HAL.out v6 _ _ _ _ _ _ _ _ _ _ HSx.out HL.out HR1.out HR2.out HR3.out HR4.out).mono ?_
         rintro e v7 ⟨⟨s1,s2,s3,⟨f1,y1,z1⟩,⟨f2,y2,z2⟩,⟨f3,y3,z3⟩,⟨f4,y4,z4⟩⟩,af,cf,rfl,hst,hlr,hle,hb⟩
         have HSF:=Lib.hid hst
         have HLF:=Lib.hid hlr
         replace HBx:=Lib.hid (HBx.out.trans (hb.mono HBx.out.size))
         replace HC1:=Lib.hid (HC1.out.next hb)
         replace HR1:=Lib.hid (HR1.out.below hb)
         replace HR2:=Lib.hid (HR2.out.below hb)
         replace HR3:=Lib.hid (HR3.out.below hb)
         replace HR4:=Lib.hid (HR4.out.below hb)
         replace HL:=Lib.hid (LRow.below HL.out hb)
         have hq6:=hb.size
         clear hst hlr hle hb HSx HL HR1 HR2 HR3 HR4
         refine hK.out _ _ ⟨HC1.out.box.cell (j:=0) rfl,HC1.out.box.cell (j:=1) rfl,HC1.out.box.cell (j:=2) rfl,HC1.out.box.cell (j:=3) rfl,HC1.out.box.cell (j:=4) rfl,HC1.out.box.cell (j:=5) rfl,HC1.out.box.cell (j:=6) rfl,HC1.out.box.cell (j:=7) rfl,HC1.out.box.cell (j:=8) rfl,HC1.out.box.cell (j:=9) rfl,HC1.out.box.cell (j:=10) rfl,HC1.out.box.cell (j:=11) rfl,HC1.out.box.cell (j:=12) rfl⟩ ?_
         clear hK K
         refine tkq 11 ?_
         refine tkq 12 ?_
         refine tkq 13 ?_
         refine soq 14 (fun K hK=> ?_)
         go_simp
         obtain⟨v8,hwa⟩:∃y,y=v7.alloc (.cells #[.int .i64 0,.int .i64 0,.int .i64 0,.slice none 0 0,.slice none 0 0,.slice none 0 0,.slice none 0 0] 27):=⟨_,rfl⟩
         rw[←hwa]
         have hb:Below v7.heap.size v7 v8:=by rw[hwa];exact(Below.refl _ _).alloc (Nat.le_refl _) _
         have hn0:Bex v8 v7.heap.size (Raw.cells ⟨0,0,0,⟨none,0,0⟩,⟨none,0,0⟩,⟨none,0,0⟩,⟨none,0,0⟩⟩):=by rw[hwa];exact Bex.new v7 (Raw.cells ⟨0,0,0,⟨none,0,0⟩,⟨none,0,0⟩,⟨none,0,0⟩,⟨none,0,0⟩⟩) _
         replace HBx:=Lib.hid (HBx.out.trans (hb.mono HBx.out.size))
         replace HC1:=Lib.hid (HC1.out.next hb)
         replace HSF:=Lib.hid (HSF.out.below hb)
         replace HLF:=Lib.hid (LRow.below HLF.out hb)
         have HT:=Lib.hid hn0
         have hq7:v7.heap.size< v8.heap.size:=hn0.lt
         clear hb hwa hn0
         refine hK.out _ _ ⟨HC1.out.box.cell (j:=0) rfl,HC1.out.box.cell (j:=1) rfl,HC1.out.box.cell (j:=2) rfl,HC1.out.box.cell (j:=3) rfl,HC1.out.box.cell (j:=4) rfl,HC1.out.box.cell (j:=5) rfl,HC1.out.box.cell (j:=6) rfl,HC1.out.box.cell (j:=7) rfl,HC1.out.box.cell (j:=8) rfl,HC1.out.box.cell (j:=9) rfl,HC1.out.box.cell (j:=10) rfl,HC1.out.box.cell (j:=11) rfl,HC1.out.box.cell (j:=12) rfl⟩ ?_
         clear hK K
         refine soq 15 (fun K hK=> ?_)
         refine op_store_bex laySt (.tmp 2) (.tmp 19) rfl v7.heap.size ⟨s1,s2,s3,⟨f1,y1,z1⟩,⟨f2,y2,z2⟩,⟨f3,y3,z3⟩,⟨f4,y4,z4⟩⟩ _ rfl rfl HT.out rfl ?_
         intro v9 hx hw
         replace HSF:=Lib.hid (HSF.out.wrote HT.out (misfits_st _) hw)
         replace HLF:=Lib.hid (LRow.turned HLF.out HT.out ans_misfit (fun k _ hk=>hw.keep k hk))
         replace HBx:=Lib.hid (HBx.out.trans (hw.below _ (by omega)))
         replace HC1:=Lib.hid (HC1.out.wrote hw (by omega))
         replace HT:=Lib.hid hx
         clear hx hw
         refine hK.out _ _ ⟨HC1.out.box.cell (j:=0) rfl,HC1.out.box.cell (j:=1) rfl,HC1.out.box.cell (j:=2) rfl,HC1.out.box.cell (j:=3) rfl,HC1.out.box.cell (j:=4) rfl,HC1.out.box.cell (j:=5) rfl,HC1.out.box.cell (j:=6) rfl,HC1.out.box.cell (j:=7) rfl,HC1.out.box.cell (j:=8) rfl,HC1.out.box.cell (j:=9) rfl,HC1.out.box.cell (j:=10) rfl,HC1.out.box.cell (j:=11) rfl,HC1.out.box.cell (j:=12) rfl⟩ ?_
         clear hK K
         refine tkq 16 ?_
         refine sdq ?_
         go_wp2_with fail
         go_meet
         exact⟨_,_,_,_,rfl,rfl,HT,HSF,HLF,HBx⟩
        ·go_simp
         obtain⟨v7,hwa⟩:∃y,y=v6.alloc (.cells #[.int .i64 0,.int .i64 0,.int .i64 0,.slice none 0 0,.slice none 0 0,.slice none 0 0,.slice none 0 0] 27):=⟨_,rfl⟩
         rw[←hwa]
         have hb:Below v6.heap.size v6 v7:=by rw[hwa];exact(Below.refl _ _).alloc (Nat.le_refl _) _
         have hn0:Bex v7 v6.heap.size (Raw.cells ⟨0,0,0,⟨none,0,0⟩,⟨none,0,0⟩,⟨none,0,0⟩,⟨none,0,0⟩⟩):=by rw[hwa];exact Bex.new v6 (Raw.cells ⟨0,0,0,⟨none,0,0⟩,⟨none,0,0⟩,⟨none,0,0⟩,⟨none,0,0⟩⟩) _
         replace HBx:=Lib.hid (HBx.out.trans (hb.mono HBx.out.size))
         replace HC1:=Lib.hid (HC1.out.next hb)
         replace HSx:=Lib.hid (HSx.out.below hb)
         replace HR1:=Lib.hid (HR1.out.below hb)
         replace HR2:=Lib.hid (HR2.out.below hb)
         replace HR3:=Lib.hid (HR3.out.below hb)
         replace HR4:=Lib.hid (HR4.out.below hb)
         replace HL:=Lib.hid (LRow.below HL.out hb)
         have HT:=Lib.hid hn0
         have hq6:v6.heap.size< v7.heap.size:=hn0.lt
         clear hb hwa hn0
         refine hK.out _ _ ⟨HC1.out.box.cell (j:=0) rfl,HC1.out.box.cell (j:=1) rfl,HC1.out.box.cell (j:=2) rfl,HC1.out.box.cell (j:=3) rfl,HC1.out.box.cell (j:=4) rfl,HC1.out.box.cell (j:=5) rfl,HC1.out.box.cell (j:=6) rfl,HC1.out.box.cell (j:=7) rfl,HC1.out.box.cell (j:=8) rfl,HC1.out.box.cell (j:=9) rfl,HC1.out.box.cell (j:=10) rfl,HC1.out.box.cell (j:=11) rfl,HC1.out.box.cell (j:=12) rfl⟩ ?_
         clear hK K
         refine soq 10 (fun K hK=> ?_)
         go_simp
         go_at_call 11
         with_reducible refine(HAL.out v7 _ _ _ _ _ _ _ _ _ _ HSx.out HL.out HR1.out HR2.out HR3.out HR4.out).mono ?_
         rintro e v8 ⟨⟨s1,s2,s3,⟨f1,y1,z1⟩,⟨f2,y2,z2⟩,⟨f3,y3,z3⟩,⟨f4,y4,z4⟩⟩,af,cf,rfl,hst,hlr,hle,hb⟩
         have HSF:=Lib.hid hst
         have HLF:=Lib.hid hlr
         replace HBx:=Lib.hid (HBx.out.trans (hb.mono HBx.out.size))
         replace HC1:=Lib.hid (HC1.out.next hb)
         replace HR1:=Lib.hid (HR1.out.below hb)
         replace HR2:=Lib.hid (HR2.out.below hb)
         replace HR3:=Lib.hid (HR3.out.below hb)
         replace HR4:=Lib.hid (HR4.out.below hb)
         replace HL:=Lib.hid (LRow.below HL.out hb)
         replace HT:=Lib.hid (HT.out.next hb)
         have hq7:=hb.size
         clear hst hlr hle hb HSx HL HR1 HR2 HR3 HR4
         refine hK.out _ _ ⟨HC1.out.box.cell (j:=0) rfl,HC1.out.box.cell (j:=1) rfl,HC1.out.box.cell (j:=2) rfl,HC1.out.box.cell (j:=3) rfl,HC1.out.box.cell (j:=4) rfl,HC1.out.box.cell (j:=5) rfl,HC1.out.box.cell (j:=6) rfl,HC1.out.box.cell (j:=7) rfl,HC1.out.box.cell (j:=8) rfl,HC1.out.box.cell (j:=9) rfl,HC1.out.box.cell (j:=10) rfl,HC1.out.box.cell (j:=11) rfl,HC1.out.box.cell (j:=12) rfl⟩ ?_
         clear hK K
         refine tkq 11 ?_
         refine tkq 12 ?_
         refine tkq 13 ?_
         refine soq 15 (fun K hK=> ?_)
         refine op_store_bex laySt (.tmp 2) (.tmp 19) rfl v6.heap.size ⟨s1,s2,s3,⟨f1,y1,z1⟩,⟨f2,y2,z2⟩,⟨f3,y3,z3⟩,⟨f4,y4,z4⟩⟩ _ rfl rfl HT.out rfl ?_
         intro v9 hx hw
         replace HSF:=Lib.hid (HSF.out.wrote HT.out (misfits_st _) hw)
         replace HLF:=Lib.hid (LRow.turned HLF.out HT.out ans_misfit (fun k _ hk=>hw.keep k hk))
         replace HBx:=Lib.hid (HBx.out.trans (hw.below _ (by omega)))
         replace HC1:=Lib.hid (HC1.out.wrote hw (by omega))
         replace HT:=Lib.hid hx
         clear hx hw
         refine hK.out _ _ ⟨HC1.out.box.cell (j:=0) rfl,HC1.out.box.cell (j:=1) rfl,HC1.out.box.cell (j:=2) rfl,HC1.out.box.cell (j:=3) rfl,HC1.out.box.cell (j:=4) rfl,HC1.out.box.cell (j:=5) rfl,HC1.out.box.cell (j:=6) rfl,HC1.out.box.cell (j:=7) rfl,HC1.out.box.cell (j:=8) rfl,HC1.out.box.cell (j:=9) rfl,HC1.out.box.cell (j:=10) rfl,HC1.out.box.cell (j:=11) rfl,HC1.out.box.cell (j:=12) rfl⟩ ?_
         clear hK K
         refine tkq 16 ?_
         refine sdq ?_
         go_wp2_with fail
         go_meet
         exact⟨_,_,_,_,rfl,rfl,HT,HSF,HLF,HBx⟩
       ·go_simp
        obtain⟨v6,hwa⟩:∃y,y=v5.alloc (.cells #[.int .i64 0,.int .i64 0,.int .i64 0,.slice none 0 0,.slice none 0 0,.slice none 0 0,.slice none 0 0] 27):=⟨_,rfl⟩
        rw[←hwa]
        have hb:Below v5.heap.size v5 v6:=by rw[hwa];exact(Below.refl _ _).alloc (Nat.le_refl _) _
        have hn0:Bex v6 v5.heap.size (Raw.cells ⟨0,0,0,⟨none,0,0⟩,⟨none,0,0⟩,⟨none,0,0⟩,⟨none,0,0⟩⟩):=by rw[hwa];exact Bex.new v5 (Raw.cells ⟨0,0,0,⟨none,0,0⟩,⟨none,0,0⟩,⟨none,0,0⟩,⟨none,0,0⟩⟩) _
        replace HBx:=Lib.hid (HBx.out.trans (hb.mono HBx.out.size))
        replace HC1:=Lib.hid (HC1.out.next hb)
        replace HSx:=Lib.hid (HSx.out.below hb)
        replace HR1:=Lib.hid (HR1.out.below hb)
        replace HR2:=Lib.hid (HR2.out.below hb)
        replace HR3:=Lib.hid (HR3.out.below hb)
        replace HR4:=Lib.hid (HR4.out.below hb)
        have HT:=Lib.hid hn0
        have hq5:v5.heap.size< v6.heap.size:=hn0.lt
        clear hb hwa hn0
        refine hK.out _ _ ⟨HC1.out.box.cell (j:=0) rfl,HC1.out.box.cell (j:=1) rfl,HC1.out.box.cell (j:=2) rfl,HC1.out.box.cell (j:=3) rfl,HC1.out.box.cell (j:=4) rfl,HC1.out.box.cell (j:=5) rfl,HC1.out.box.cell (j:=6) rfl,HC1.out.box.cell (j:=7) rfl,HC1.out.box.cell (j:=8) rfl,HC1.out.box.cell (j:=9) rfl,HC1.out.box.cell (j:=10) rfl,HC1.out.box.cell (j:=11) rfl,HC1.out.box.cell (j:=12) rfl⟩ ?_
        clear hK K
        refine soq 9 (fun K hK=> ?_)
        go_simp
        obtain⟨v7,hwa⟩:∃y,y=v6.alloc (.cells #[.int .i64 x1.term,.int .i8 x1.kind,.int .i64 x1.stamp,B x1.set,.slice a1 x1.data.length k1,.int .i64 x2.term,.int .i8 x2.kind,.int .i64 x2.stamp,B x2.set,.slice a2 x2.data.length k2,.int .i64 x2.term,.int .i8 x2.kind,.int .i64 x2.stamp,B x2.set,.slice a3 x2.data.length k3,.int .i64 x3.term,.int .i8 x3.kind,.int .i64 x3.stamp,B x3.set,.slice a4 x3.data.length k4] 45):=⟨_,rfl⟩
        rw[←hwa]
        have hb:Below v6.heap.size v6 v7:=by rw[hwa];exact(Below.refl _ _).alloc (Nat.le_refl _) _
        have hn0:LRow layRw v7 (some ⟨v6.heap.size,0,none⟩) [(x1,(a1,k1)),(x2,(a2,k2)),(x2,(a3,k3)),(x3,(a4,k4))]:=by rw[hwa];exact Row.new v6 _ _ _
        replace HBx:=Lib.hid (HBx.out.trans (hb.mono HBx.out.size))
        replace HC1:=Lib.hid (HC1.out.next hb)
        replace HSx:=Lib.hid (HSx.out.below hb)
        replace HR1:=Lib.hid (HR1.out.below hb)
        replace HR2:=Lib.hid (HR2.out.below hb)
        replace HR3:=Lib.hid (HR3.out.below hb)
        replace HR4:=Lib.hid (HR4.out.below hb)
        replace HT:=Lib.hid (HT.out.next hb)
        have HL:=Lib.hid hn0
        have hq6:=hb.size
        clear hb hwa hn0
        refine hK.out _ _ ⟨HC1.out.box.cell (j:=0) rfl,HC1.out.box.cell (j:=1) rfl,HC1.out.box.cell (j:=2) rfl,HC1.out.box.cell (j:=3) rfl,HC1.out.box.cell (j:=4) rfl,HC1.out.box.cell (j:=5) rfl,HC1.out.box.cell (j:=6) rfl,HC1.out.box.cell (j:=7) rfl,HC1.out.box.cell (j:=8) rfl,HC1.out.box.cell (j:=9) rfl,HC1.out.box.cell (j:=10) rfl,HC1.out.box.cell (j:=11) rfl,HC1.out.box.cell (j:=12) rfl⟩ ?_
        clear hK K
        refine soq 10 (fun K hK=> ?_)
        go_simp
        go_at_call 11
        with_reducible refine(HAL.out v7 _ _ _ _ _ _ _ _ _ _ HSx.out HL.out HR1.out HR2.out HR3.out HR4.out).mono ?_
        rintro e v8 ⟨⟨s1,s2,s3,⟨f1,y1,z1⟩,⟨f2,y2,z2⟩,⟨f3,y3,z3⟩,⟨f4,y4,z4⟩⟩,af,cf,rfl,hst,hlr,hle,hb⟩
        have HSF:=Lib.hid hst
        have HLF:=Lib.hid hlr
        replace HBx:=Lib.hid (HBx.out.trans (hb.mono HBx.out.size))
        replace HC1:=Lib.hid (HC1.out.next hb)
        replace HR1:=Lib.hid (HR1.out.below hb)
        replace HR2:=Lib.hid (HR2.out.below hb)
        replace HR3:=Lib.hid (HR3.out.below hb)
        replace HR4:=Lib.hid (HR4.out.below hb)
        replace HL:=Lib.hid (LRow.below HL.out hb)
        replace HT:=Lib.hid (HT.out.next hb)
        have hq7:=hb.size
        clear hst hlr hle hb HSx HL HR1 HR2 HR3 HR4
        refine hK.out _ _ ⟨HC1.out.box.cell (j:=0) rfl,HC1.out.box.cell (j:=1) rfl,HC1.out.box.cell (j:=2) rfl,HC1.out.box.cell (j:=3) rfl,HC1.out.box.cell (j:=4) rfl,HC1.out.box.cell (j:=5) rfl,HC1.out.box.cell (j:=6) rfl,HC1.out.box.cell (j:=7) rfl,HC1.out.box.cell (j:=8) rfl,HC1.out.box.cell (j:=9) rfl,HC1.out.box.cell (j:=10) rfl,HC1.out.box.cell (j:=11) rfl,HC1.out.box.cell (j:=12) rfl⟩ ?_
        clear hK K
        refine tkq 11 ?_
        refine tkq 12 ?_
        refine tkq 13 ?_
        refine soq 15 (fun K hK=> ?_)
        refine op_store_bex laySt (.tmp 2) (.tmp 19) rfl v5.heap.size ⟨s1,s2,s3,⟨f1,y1,z1⟩,⟨f2,y2,z2⟩,⟨f3,y3,z3⟩,⟨f4,y4,z4⟩⟩ _ rfl rfl HT.out rfl ?_
        intro v9 hx hw
        replace HSF:=Lib.hid (HSF.out.wrote HT.out (misfits_st _) hw)
        replace HLF:=Lib.hid (LRow.turned HLF.out HT.out ans_misfit (fun k _ hk=>hw.keep k hk))
        replace HBx:=Lib.hid (HBx.out.trans (hw.below _ (by omega)))
        replace HC1:=Lib.hid (HC1.out.wrote hw (by omega))
        replace HT:=Lib.hid hx
        clear hx hw
        refine hK.out _ _ ⟨HC1.out.box.cell (j:=0) rfl,HC1.out.box.cell (j:=1) rfl,HC1.out.box.cell (j:=2) rfl,HC1.out.box.cell (j:=3) rfl,HC1.out.box.cell (j:=4) rfl,HC1.out.box.cell (j:=5) rfl,HC1.out.box.cell (j:=6) rfl,HC1.out.box.cell (j:=7) rfl,HC1.out.box.cell (j:=8) rfl,HC1.out.box.cell (j:=9) rfl,HC1.out.box.cell (j:=10) rfl,HC1.out.box.cell (j:=11) rfl,HC1.out.box.cell (j:=12) rfl⟩ ?_
        clear hK K
        refine tkq 16 ?_
        refine sdq ?_
        go_wp2_with fail
        go_meet
        exact⟨_,_,_,_,rfl,rfl,HT,HSF,HLF,HBx⟩
      ·go_simp
       obtain⟨v5,hwa⟩:∃y,y=v4.alloc (.cells #[.int .i64 0,.int .i64 0,.int .i64 0,.slice none 0 0,.slice none 0 0,.slice none 0 0,.slice none 0 0] 27):=⟨_,rfl⟩
       rw[←hwa]
       have hb:Below v4.heap.size v4 v5:=by rw[hwa];exact(Below.refl _ _).alloc (Nat.le_refl _) _
       have hn0:Bex v5 v4.heap.size (Raw.cells ⟨0,0,0,⟨none,0,0⟩,⟨none,0,0⟩,⟨none,0,0⟩,⟨none,0,0⟩⟩):=by rw[hwa];exact Bex.new v4 (Raw.cells ⟨0,0,0,⟨none,0,0⟩,⟨none,0,0⟩,⟨none,0,0⟩,⟨none,0,0⟩⟩) _
       replace HBx:=Lib.hid (HBx.out.trans (hb.mono HBx.out.size))
       replace HC1:=Lib.hid (HC1.out.next hb)
       replace HSx:=Lib.hid (HSx.out.below hb)
       replace HR1:=Lib.hid (HR1.out.below hb)
       replace HR2:=Lib.hid (HR2.out.below hb)
       replace HR3:=Lib.hid (HR3.out.below hb)
       have HT:=Lib.hid hn0
       have hq4:v4.heap.size< v5.heap.size:=hn0.lt
       clear hb hwa hn0
       refine hK.out _ _ ⟨HC1.out.box.cell (j:=0) rfl,HC1.out.box.cell (j:=1) rfl,HC1.out.box.cell (j:=2) rfl,HC1.out.box.cell (j:=3) rfl,HC1.out.box.cell (j:=4) rfl,HC1.out.box.cell (j:=5) rfl,HC1.out.box.cell (j:=6) rfl,HC1.out.box.cell (j:=7) rfl,HC1.out.box.cell (j:=8) rfl,HC1.out.box.cell (j:=9) rfl,HC1.out.box.cell (j:=10) rfl,HC1.out.box.cell (j:=11) rfl,HC1.out.box.cell (j:=12) rfl⟩ ?_
       clear hK K
       refine soq 8 (fun K hK=> ?_)
       go_simp
       go_at_call 19
       with_reducible refine(HE3.out v5).mono ?_
       rintro e v6 ⟨⟨a4,k4⟩,rfl,hr,hk,hb⟩
       unfold valEnt
       replace HBx:=Lib.hid (HBx.out.trans (hb.mono HBx.out.size))
       replace HC1:=Lib.hid (HC1.out.next hb)
       replace HSx:=Lib.hid (HSx.out.below hb)
       replace HR1:=Lib.hid (HR1.out.below hb)
       replace HR2:=Lib.hid (HR2.out.below hb)
       replace HR3:=Lib.hid (HR3.out.below hb)
       replace HT:=Lib.hid (HT.out.next hb)
       have HR4:=Lib.hid (ent_in hr hk HXO.out.2.2.1 HXO.out.2.2.2)
       have hq5:=hb.size
       clear hr hk hb
       refine hK.out _ _ ⟨HC1.out.box.cell (j:=0) rfl,HC1.out.box.cell (j:=1) rfl,HC1.out.box.cell (j:=2) rfl,HC1.out.box.cell (j:=3) rfl,HC1.out.box.cell (j:=4) rfl,HC1.out.box.cell (j:=5) rfl,HC1.out.box.cell (j:=6) rfl,HC1.out.box.cell (j:=7) rfl,HC1.out.box.cell (j:=8) rfl,HC1.out.box.cell (j:=9) rfl,HC1.out.box.cell (j:=10) rfl,HC1.out.box.cell (j:=11) rfl,HC1.out.box.cell (j:=12) rfl⟩ ?_
       clear hK K
       refine soq 9 (fun K hK=> ?_)
       go_simp
       obtain⟨v7,hwa⟩:∃y,y=v6.alloc (.cells #[.int .i64 x1.term,.int .i8 x1.kind,.int .i64 x1.stamp,B x1.set,.slice a1 x1.data.length k1,.int .i64 x2.term,.int .i8 x2.kind,.int .i64 x2.stamp,B x2.set,.slice a2 x2.data.length k2,.int .i64 x2.term,.int .i8 x2.kind,.int .i64 x2.stamp,B x2.set,.slice a3 x2.data.length k3,.int .i64 x3.term,.int .i8 x3.kind,.int .i64 x3.stamp,B x3.set,.slice a4 x3.data.length k4] 45):=⟨_,rfl⟩
       rw[←hwa]
       have hb:Below v6.heap.size v6 v7:=by rw[hwa];exact(Below.refl _ _).alloc (Nat.le_refl _) _
       have hn0:LRow layRw v7 (some ⟨v6.heap.size,0,none⟩) [(x1,(a1,k1)),(x2,(a2,k2)),(x2,(a3,k3)),(x3,(a4,k4))]:=by rw[hwa];exact Row.new v6 _ _ _
       replace HBx:=Lib.hid (HBx.out.trans (hb.mono HBx.out.size))
       replace HC1:=Lib.hid (HC1.out.next hb)
       replace HSx:=Lib.hid (HSx.out.below hb)
       replace HR1:=Lib.hid (HR1.out.below hb)
       replace HR2:=Lib.hid (HR2.out.below hb)
       replace HR3:=Lib.hid (HR3.out.below hb)
       replace HR4:=Lib.hid (HR4.out.below hb)
       replace HT:=Lib.hid (HT.out.next hb)
       have HL:=Lib.hid hn0
       have hq6:=hb.size
       clear hb hwa hn0
       refine hK.out _ _ ⟨HC1.out.box.cell (j:=0) rfl,HC1.out.box.cell (j:=1) rfl,HC1.out.box.cell (j:=2) rfl,HC1.out.box.cell (j:=3) rfl,HC1.out.box.cell (j:=4) rfl,HC1.out.box.cell (j:=5) rfl,HC1.out.box.cell (j:=6) rfl,HC1.out.box.cell (j:=7) rfl,HC1.out.box.cell (j:=8) rfl,HC1.out.box.cell (j:=9) rfl,HC1.out.box.cell (j:=10) rfl,HC1.out.box.cell (j:=11) rfl,HC1.out.box.cell (j:=12) rfl⟩ ?_
       clear hK K
       refine soq 10 (fun K hK=> ?_)
       go_simp
       go_at_call 11
       with_reducible refine(HAL.out v7 _ _ _ _ _ _ _ _ _ _ HSx.out HL.out HR1.out HR2.out HR3.out HR4.out).mono ?_
       rintro e v8 ⟨⟨s1,s2,s3,⟨f1,y1,z1⟩,⟨f2,y2,z2⟩,⟨f3,y3,z3⟩,⟨f4,y4,z4⟩⟩,af,cf,rfl,hst,hlr,hle,hb⟩
       have HSF:=Lib.hid hst
       have HLF:=Lib.hid hlr
       replace HBx:=Lib.hid (HBx.out.trans (hb.mono HBx.out.size))
       replace HC1:=Lib.hid (HC1.out.next hb)
       replace HR1:=Lib.hid (HR1.out.below hb)
       replace HR2:=Lib.hid (HR2.out.below hb)
       replace HR3:=Lib.hid (HR3.out.below hb)
       replace HR4:=Lib.hid (HR4.out.below hb)
       replace HL:=Lib.hid (LRow.below HL.out hb)
       replace HT:=Lib.hid (HT.out.next hb)
       have hq7:=hb.size
       clear hst hlr hle hb HSx HL HR1 HR2 HR3 HR4
       refine hK.out _ _ ⟨HC1.out.box.cell (j:=0) rfl,HC1.out.box.cell (j:=1) rfl,HC1.out.box.cell (j:=2) rfl,HC1.out.box.cell (j:=3) rfl,HC1.out.box.cell (j:=4) rfl,HC1.out.box.cell (j:=5) rfl,HC1.out.box.cell (j:=6) rfl,HC1.out.box.cell (j:=7) rfl,HC1.out.box.cell (j:=8) rfl,HC1.out.box.cell (j:=9) rfl,HC1.out.box.cell (j:=10) rfl,HC1.out.box.cell (j:=11) rfl,HC1.out.box.cell (j:=12) rfl⟩ ?_
       clear hK K
       refine tkq 11 ?_
       refine tkq 12 ?_
       refine tkq 13 ?_
       refine soq 15 (fun K hK=> ?_)
       refine op_store_bex laySt (.tmp 2) (.tmp 19) rfl v4.heap.size ⟨s1,s2,s3,⟨f1,y1,z1⟩,⟨f2,y2,z2⟩,⟨f3,y3,z3⟩,⟨f4,y4,z4⟩⟩ _ rfl rfl HT.out rfl ?_
       intro v9 hx hw
       replace HSF:=Lib.hid (HSF.out.wrote HT.out (misfits_st _) hw)
       replace HLF:=Lib.hid (LRow.turned HLF.out HT.out ans_misfit (fun k _ hk=>hw.keep k hk))
       replace HBx:=Lib.hid (HBx.out.trans (hw.below _ (by omega)))
       replace HC1:=Lib.hid (HC1.out.wrote hw (by omega))
       replace HT:=Lib.hid hx
       clear hx hw
       refine hK.out _ _ ⟨HC1.out.box.cell (j:=0) rfl,HC1.out.box.cell (j:=1) rfl,HC1.out.box.cell (j:=2) rfl,HC1.out.box.cell (j:=3) rfl,HC1.out.box.cell (j:=4) rfl,HC1.out.box.cell (j:=5) rfl,HC1.out.box.cell (j:=6) rfl,HC1.out.box.cell (j:=7) rfl,HC1.out.box.cell (j:=8) rfl,HC1.out.box.cell (j:=9) rfl,HC1.out.box.cell (j:=10) rfl,HC1.out.box.cell (j:=11) rfl,HC1.out.box.cell (j:=12) rfl⟩ ?_
       clear hK K
       refine tkq 16 ?_
       refine sdq ?_
       go_wp2_with fail
       go_meet
       exact⟨_,_,_,_,rfl,rfl,HT,HSF,HLF,HBx⟩
     ·go_simp
      obtain⟨v4,hwa⟩:∃y,y=v3.alloc (.cells #[.int .i64 0,.int .i64 0,.int .i64 0,.slice none 0 0,.slice none 0 0,.slice none 0 0,.slice none 0 0] 27):=⟨_,rfl⟩
      rw[←hwa]
      have hb:Below v3.heap.size v3 v4:=by rw[hwa];exact(Below.refl _ _).alloc (Nat.le_refl _) _
      have hn0:Bex v4 v3.heap.size (Raw.cells ⟨0,0,0,⟨none,0,0⟩,⟨none,0,0⟩,⟨none,0,0⟩,⟨none,0,0⟩⟩):=by rw[hwa];exact Bex.new v3 (Raw.cells ⟨0,0,0,⟨none,0,0⟩,⟨none,0,0⟩,⟨none,0,0⟩,⟨none,0,0⟩⟩) _
      replace HBx:=Lib.hid (HBx.out.trans (hb.mono HBx.out.size))
      replace HC1:=Lib.hid (HC1.out.next hb)
      replace HSx:=Lib.hid (HSx.out.below hb)
      replace HR1:=Lib.hid (HR1.out.below hb)
      replace HR2:=Lib.hid (HR2.out.below hb)
      have HT:=Lib.hid hn0
      have hq3:v3.heap.size< v4.heap.size:=hn0.lt
      clear hb hwa hn0
      refine hK.out _ _ ⟨HC1.out.box.cell (j:=0) rfl,HC1.out.box.cell (j:=1) rfl,HC1.out.box.cell (j:=2) rfl,HC1.out.box.cell (j:=3) rfl,HC1.out.box.cell (j:=4) rfl,HC1.out.box.cell (j:=5) rfl,HC1.out.box.cell (j:=6) rfl,HC1.out.box.cell (j:=7) rfl,HC1.out.box.cell (j:=8) rfl,HC1.out.box.cell (j:=9) rfl,HC1.out.box.cell (j:=10) rfl,HC1.out.box.cell (j:=11) rfl,HC1.out.box.cell (j:=12) rfl⟩ ?_
      clear hK K
      refine soq 6 (fun K hK=> ?_)
      go_simp
      go_at_call 19
      with_reducible refine(HE2.out v4).mono ?_
      rintro e v5 ⟨⟨a3,k3⟩,rfl,hr,hk,hb⟩
      unfold valEnt
      replace HBx:=Lib.hid (HBx.out.trans (hb.mono HBx.out.size))
      replace HC1:=Lib.hid (HC1.out.next hb)
      replace HSx:=Lib.hid (HSx.out.below hb)
      replace HR1:=Lib.hid (HR1.out.below hb)
      replace HR2:=Lib.hid (HR2.out.below hb)
      replace HT:=Lib.hid (HT.out.next hb)
      have HR3:=Lib.hid (ent_in hr hk HXO.out.2.1.1 HXO.out.2.1.2)
      have hq4:=hb.size
      clear hr hk hb
      refine hK.out _ _ ⟨HC1.out.box.cell (j:=0) rfl,HC1.out.box.cell (j:=1) rfl,HC1.out.box.cell (j:=2) rfl,HC1.out.box.cell (j:=3) rfl,HC1.out.box.cell (j:=4) rfl,HC1.out.box.cell (j:=5) rfl,HC1.out.box.cell (j:=6) rfl,HC1.out.box.cell (j:=7) rfl,HC1.out.box.cell (j:=8) rfl,HC1.out.box.cell (j:=9) rfl,HC1.out.box.cell (j:=10) rfl,HC1.out.box.cell (j:=11) rfl,HC1.out.box.cell (j:=12) rfl⟩ ?_
      clear hK K
      refine soq 8 (fun K hK=> ?_)
      go_simp
      go_at_call 19
      with_reducible refine(HE3.out v5).mono ?_
      rintro e v6 ⟨⟨a4,k4⟩,rfl,hr,hk,hb⟩
      unfold valEnt
      replace HBx:=Lib.hid (HBx.out.trans (hb.mono HBx.out.size))
      replace HC1:=Lib.hid (HC1.out.next hb)
      replace HSx:=Lib.hid (HSx.out.below hb)
      replace HR1:=Lib.hid (HR1.out.below hb)
      replace HR2:=Lib.hid (HR2.out.below hb)
      replace HR3:=Lib.hid (HR3.out.below hb)
      replace HT:=Lib.hid (HT.out.next hb)
      have HR4:=Lib.hid (ent_in hr hk HXO.out.2.2.1 HXO.out.2.2.2)
      have hq5:=hb.size
      clear hr hk hb
      refine hK.out _ _ ⟨HC1.out.box.cell (j:=0) rfl,HC1.out.box.cell (j:=1) rfl,HC1.out.box.cell (j:=2) rfl,HC1.out.box.cell (j:=3) rfl,HC1.out.box.cell (j:=4) rfl,HC1.out.box.cell (j:=5) rfl,HC1.out.box.cell (j:=6) rfl,HC1.out.box.cell (j:=7) rfl,HC1.out.box.cell (j:=8) rfl,HC1.out.box.cell (j:=9) rfl,HC1.out.box.cell (j:=10) rfl,HC1.out.box.cell (j:=11) rfl,HC1.out.box.cell (j:=12) rfl⟩ ?_
      clear hK K
      refine soq 9 (fun K hK=> ?_)
      go_simp
      obtain⟨v7,hwa⟩:∃y,y=v6.alloc (.cells #[.int .i64 x1.term,.int .i8 x1.kind,.int .i64 x1.stamp,B x1.set,.slice a1 x1.data.length k1,.int .i64 x2.term,.int .i8 x2.kind,.int .i64 x2.stamp,B x2.set,.slice a2 x2.data.length k2,.int .i64 x2.term,.int .i8 x2.kind,.int .i64 x2.stamp,B x2.set,.slice a3 x2.data.length k3,.int .i64 x3.term,.int .i8 x3.kind,.int .i64 x3.stamp,B x3.set,.slice a4 x3.data.length k4] 45):=⟨_,rfl⟩
      rw[←hwa]
      have hb:Below v6.heap.size v6 v7:=by rw[hwa];exact(Below.refl _ _).alloc (Nat.le_refl _) _
      have hn0:LRow layRw v7 (some ⟨v6.heap.size,0,none⟩) [(x1,(a1,k1)),(x2,(a2,k2)),(x2,(a3,k3)),(x3,(a4,k4))]:=by rw[hwa];exact Row.new v6 _ _ _
      replace HBx:=Lib.hid (HBx.out.trans (hb.mono HBx.out.size))
      replace HC1:=Lib.hid (HC1.out.next hb)
      replace HSx:=Lib.hid (HSx.out.below hb)
      replace HR1:=Lib.hid (HR1.out.below hb)
      replace HR2:=Lib.hid (HR2.out.below hb)
      replace HR3:=Lib.hid (HR3.out.below hb)
      replace HR4:=Lib.hid (HR4.out.below hb)
      replace HT:=Lib.hid (HT.out.next hb)
      have HL:=Lib.hid hn0
      have hq6:=hb.size
      clear hb hwa hn0
      refine hK.out _ _ ⟨HC1.out.box.cell (j:=0) rfl,HC1.out.box.cell (j:=1) rfl,HC1.out.box.cell (j:=2) rfl,HC1.out.box.cell (j:=3) rfl,HC1.out.box.cell (j:=4) rfl,HC1.out.box.cell (j:=5) rfl,HC1.out.box.cell (j:=6) rfl,HC1.out.box.cell (j:=7) rfl,HC1.out.box.cell (j:=8) rfl,HC1.out.box.cell (j:=9) rfl,HC1.out.box.cell (j:=10) rfl,HC1.out.box.cell (j:=11) rfl,HC1.out.box.cell (j:=12) rfl⟩ ?_
      clear hK K
      refine soq 10 (fun K hK=> ?_)
      go_simp
      go_at_call 11
      with_reducible refine(HAL.out v7 _ _ _ _ _ _ _ _ _ _ HSx.out HL.out HR1.out HR2.out HR3.out HR4.out).mono ?_
      rintro e v8 ⟨⟨s1,s2,s3,⟨f1,y1,z1⟩,⟨f2,y2,z2⟩,⟨f3,y3,z3⟩,⟨f4,y4,z4⟩⟩,af,cf,rfl,hst,hlr,hle,hb⟩
      have HSF:=Lib.hid hst
      have HLF:=Lib.hid hlr
      replace HBx:=Lib.hid (HBx.out.trans (hb.mono HBx.out.size))
      replace HC1:=Lib.hid (HC1.out.next hb)
      replace HR1:=Lib.hid (HR1.out.below hb)
      replace HR2:=Lib.hid (HR2.out.below hb)
      replace HR3:=Lib.hid (HR3.out.below hb)
      replace HR4:=Lib.hid (HR4.out.below hb)
      replace HL:=Lib.hid (LRow.below HL.out hb)
      replace HT:=Lib.hid (HT.out.next hb)
      have hq7:=hb.size
      clear hst hlr hle hb HSx HL HR1 HR2 HR3 HR4
      refine hK.out _ _ ⟨HC1.out.box.cell (j:=0) rfl,HC1.out.box.cell (j:=1) rfl,HC1.out.box.cell (j:=2) rfl,HC1.out.box.cell (j:=3) rfl,HC1.out.box.cell (j:=4) rfl,HC1.out.box.cell (j:=5) rfl,HC1.out.box.cell (j:=6) rfl,HC1.out.box.cell (j:=7) rfl,HC1.out.box.cell (j:=8) rfl,HC1.out.box.cell (j:=9) rfl,HC1.out.box.cell (j:=10) rfl,HC1.out.box.cell (j:=11) rfl,HC1.out.box.cell (j:=12) rfl⟩ ?_
      clear hK K
      refine tkq 11 ?_
      refine tkq 12 ?_
      refine tkq 13 ?_
      refine soq 15 (fun K hK=> ?_)
      refine op_store_bex laySt (.tmp 2) (.tmp 19) rfl v3.heap.size ⟨s1,s2,s3,⟨f1,y1,z1⟩,⟨f2,y2,z2⟩,⟨f3,y3,z3⟩,⟨f4,y4,z4⟩⟩ _ rfl rfl HT.out rfl ?_
      intro v9 hx hw
      replace HSF:=Lib.hid (HSF.out.wrote HT.out (misfits_st _) hw)
      replace HLF:=Lib.hid (LRow.turned HLF.out HT.out ans_misfit (fun k _ hk=>hw.keep k hk))
      replace HBx:=Lib.hid (HBx.out.trans (hw.below _ (by omega)))
      replace HC1:=Lib.hid (HC1.out.wrote hw (by omega))
      replace HT:=Lib.hid hx
      clear hx hw
      refine hK.out _ _ ⟨HC1.out.box.cell (j:=0) rfl,HC1.out.box.cell (j:=1) rfl,HC1.out.box.cell (j:=2) rfl,HC1.out.box.cell (j:=3) rfl,HC1.out.box.cell (j:=4) rfl,HC1.out.box.cell (j:=5) rfl,HC1.out.box.cell (j:=6) rfl,HC1.out.box.cell (j:=7) rfl,HC1.out.box.cell (j:=8) rfl,HC1.out.box.cell (j:=9) rfl,HC1.out.box.cell (j:=10) rfl,HC1.out.box.cell (j:=11) rfl,HC1.out.box.cell (j:=12) rfl⟩ ?_
      clear hK K
      refine tkq 16 ?_
      refine sdq ?_
      go_wp2_with fail
      go_meet
      exact⟨_,_,_,_,rfl,rfl,HT,HSF,HLF,HBx⟩
    ·go_simp
     obtain⟨v3,hwa⟩:∃y,y=v2.alloc (.cells #[.int .i64 0,.int .i64 0,.int .i64 0,.slice none 0 0,.slice none 0 0,.slice none 0 0,.slice none 0 0] 27):=⟨_,rfl⟩
     rw[←hwa]
     have hb:Below v2.heap.size v2 v3:=by rw[hwa];exact(Below.refl _ _).alloc (Nat.le_refl _) _
     have hn0:Bex v3 v2.heap.size (Raw.cells ⟨0,0,0,⟨none,0,0⟩,⟨none,0,0⟩,⟨none,0,0⟩,⟨none,0,0⟩⟩):=by rw[hwa];exact Bex.new v2 (Raw.cells ⟨0,0,0,⟨none,0,0⟩,⟨none,0,0⟩,⟨none,0,0⟩,⟨none,0,0⟩⟩) _
     replace HBx:=Lib.hid (HBx.out.trans (hb.mono HBx.out.size))
     replace HC1:=Lib.hid (HC1.out.next hb)
     replace HSx:=Lib.hid (HSx.out.below hb)
     replace HR1:=Lib.hid (HR1.out.below hb)
     have HT:=Lib.hid hn0
     have hq2:v2.heap.size< v3.heap.size:=hn0.lt
     clear hb hwa hn0
     refine hK.out _ _ ⟨HC1.out.box.cell (j:=0) rfl,HC1.out.box.cell (j:=1) rfl,HC1.out.box.cell (j:=2) rfl,HC1.out.box.cell (j:=3) rfl,HC1.out.box.cell (j:=4) rfl,HC1.out.box.cell (j:=5) rfl,HC1.out.box.cell (j:=6) rfl,HC1.out.box.cell (j:=7) rfl,HC1.out.box.cell (j:=8) rfl,HC1.out.box.cell (j:=9) rfl,HC1.out.box.cell (j:=10) rfl,HC1.out.box.cell (j:=11) rfl,HC1.out.box.cell (j:=12) rfl⟩ ?_
     clear hK K
     refine soq 4 (fun K hK=> ?_)
     go_simp
     go_at_call 19
     with_reducible refine(HE2.out v3).mono ?_
     rintro e v4 ⟨⟨a2,k2⟩,rfl,hr,hk,hb⟩
     unfold valEnt
     replace HBx:=Lib.hid (HBx.out.trans (hb.mono HBx.out.size))
     replace HC1:=Lib.hid (HC1.out.next hb)
     replace HSx:=Lib.hid (HSx.out.below hb)
     replace HR1:=Lib.hid (HR1.out.below hb)
     replace HT:=Lib.hid (HT.out.next hb)
     have HR2:=Lib.hid (ent_in hr hk HXO.out.2.1.1 HXO.out.2.1.2)
     have hq3:=hb.size
     clear hr hk hb
     refine hK.out _ _ ⟨HC1.out.box.cell (j:=0) rfl,HC1.out.box.cell (j:=1) rfl,HC1.out.box.cell (j:=2) rfl,HC1.out.box.cell (j:=3) rfl,HC1.out.box.cell (j:=4) rfl,HC1.out.box.cell (j:=5) rfl,HC1.out.box.cell (j:=6) rfl,HC1.out.box.cell (j:=7) rfl,HC1.out.box.cell (j:=8) rfl,HC1.out.box.cell (j:=9) rfl,HC1.out.box.cell (j:=10) rfl,HC1.out.box.cell (j:=11) rfl,HC1.out.box.cell (j:=12) rfl⟩ ?_
     clear hK K
     refine soq 6 (fun K hK=> ?_)
     go_simp
     go_at_call 19
     with_reducible refine(HE2.out v4).mono ?_
     rintro e v5 ⟨⟨a3,k3⟩,rfl,hr,hk,hb⟩
     unfold valEnt
     replace HBx:=Lib.hid (HBx.out.trans (hb.mono HBx.out.size))
     replace HC1:=Lib.hid (HC1.out.next hb)
     replace HSx:=Lib.hid (HSx.out.below hb)
     replace HR1:=Lib.hid (HR1.out.below hb)
     replace HR2:=Lib.hid (HR2.out.below hb)
     replace HT:=Lib.hid (HT.out.next hb)
     have HR3:=Lib.hid (ent_in hr hk HXO.out.2.1.1 HXO.out.2.1.2)
     have hq4:=hb.size
     clear hr hk hb
     refine hK.out _ _ ⟨HC1.out.box.cell (j:=0) rfl,HC1.out.box.cell (j:=1) rfl,HC1.out.box.cell (j:=2) rfl,HC1.out.box.cell (j:=3) rfl,HC1.out.box.cell (j:=4) rfl,HC1.out.box.cell (j:=5) rfl,HC1.out.box.cell (j:=6) rfl,HC1.out.box.cell (j:=7) rfl,HC1.out.box.cell (j:=8) rfl,HC1.out.box.cell (j:=9) rfl,HC1.out.box.cell (j:=10) rfl,HC1.out.box.cell (j:=11) rfl,HC1.out.box.cell (j:=12) rfl⟩ ?_
     clear hK K
     refine soq 8 (fun K hK=> ?_)
     go_simp
     go_at_call 19
     with_reducible refine(HE3.out v5).mono ?_
     rintro e v6 ⟨⟨a4,k4⟩,rfl,hr,hk,hb⟩
     unfold valEnt
     replace HBx:=Lib.hid (HBx.out.trans (hb.mono HBx.out.size))
     replace HC1:=Lib.hid (HC1.out.next hb)
     replace HSx:=Lib.hid (HSx.out.below hb)
     replace HR1:=Lib.hid (HR1.out.below hb)
     replace HR2:=Lib.hid (HR2.out.below hb)
     replace HR3:=Lib.hid (HR3.out.below hb)
     replace HT:=Lib.hid (HT.out.next hb)
     have HR4:=Lib.hid (ent_in hr hk HXO.out.2.2.1 HXO.out.2.2.2)
     have hq5:=hb.size
     clear hr hk hb
     refine hK.out _ _ ⟨HC1.out.box.cell (j:=0) rfl,HC1.out.box.cell (j:=1) rfl,HC1.out.box.cell (j:=2) rfl,HC1.out.box.cell (j:=3) rfl,HC1.out.box.cell (j:=4) rfl,HC1.out.box.cell (j:=5) rfl,HC1.out.box.cell (j:=6) rfl,HC1.out.box.cell (j:=7) rfl,HC1.out.box.cell (j:=8) rfl,HC1.out.box.cell (j:=9) rfl,HC1.out.box.cell (j:=10) rfl,HC1.out.box.cell (j:=11) rfl,HC1.out.box.cell (j:=12) rfl⟩ ?_
     clear hK K
     refine soq 9 (fun K hK=> ?_)
     go_simp
     obtain⟨v7,hwa⟩:∃y,y=v6.alloc (.cells #[.int .i64 x1.term,.int .i8 x1.kind,.int .i64 x1.stamp,B x1.set,.slice a1 x1.data.length k1,.int .i64 x2.term,.int .i8 x2.kind,.int .i64 x2.stamp,B x2.set,.slice a2 x2.data.length k2,.int .i64 x2.term,.int .i8 x2.kind,.int .i64 x2.stamp,B x2.set,.slice a3 x2.data.length k3,.int .i64 x3.term,.int .i8 x3.kind,.int .i64 x3.stamp,B x3.set,.slice a4 x3.data.length k4] 45):=⟨_,rfl⟩
     rw[←hwa]
     have hb:Below v6.heap.size v6 v7:=by rw[hwa];exact(Below.refl _ _).alloc (Nat.le_refl _) _
     have hn0:LRow layRw v7 (some ⟨v6.heap.size,0,none⟩) [(x1,(a1,k1)),(x2,(a2,k2)),(x2,(a3,k3)),(x3,(a4,k4))]:=by rw[hwa];exact Row.new v6 _ _ _
     replace HBx:=Lib.hid (HBx.out.trans (hb.mono HBx.out.size))
     replace HC1:=Lib.hid (HC1.out.next hb)
     replace HSx:=Lib.hid (HSx.out.below hb)
     replace HR1:=Lib.hid (HR1.out.below hb)
     replace HR2:=Lib.hid (HR2.out.below hb)
     replace HR3:=Lib.hid (HR3.out.below hb)
     replace HR4:=Lib.hid (HR4.out.below hb)
     replace HT:=Lib.hid (HT.out.next hb)
     have HL:=Lib.hid hn0
     have hq6:=hb.size
     clear hb hwa hn0
     refine hK.out _ _ ⟨HC1.out.box.cell (j:=0) rfl,HC1.out.box.cell (j:=1) rfl,HC1.out.box.cell (j:=2) rfl,HC1.out.box.cell (j:=3) rfl,HC1.out.box.cell (j:=4) rfl,HC1.out.box.cell (j:=5) rfl,HC1.out.box.cell (j:=6) rfl,HC1.out.box.cell (j:=7) rfl,HC1.out.box.cell (j:=8) rfl,HC1.out.box.cell (j:=9) rfl,HC1.out.box.cell (j:=10) rfl,HC1.out.box.cell (j:=11) rfl,HC1.out.box.cell (j:=12) rfl⟩ ?_
     clear hK K
     refine soq 10 (fun K hK=> ?_)
     go_simp
     go_at_call 11
     with_reducible refine(HAL.out v7 _ _ _ _ _ _ _ _ _ _ HSx.out HL.out HR1.out HR2.out HR3.out HR4.out).mono ?_
     rintro e v8 ⟨⟨s1,s2,s3,⟨f1,y1,z1⟩,⟨f2,y2,z2⟩,⟨f3,y3,z3⟩,⟨f4,y4,z4⟩⟩,af,cf,rfl,hst,hlr,hle,hb⟩
     have HSF:=Lib.hid hst
     have HLF:=Lib.hid hlr
     replace HBx:=Lib.hid (HBx.out.trans (hb.mono HBx.out.size))
     replace HC1:=Lib.hid (HC1.out.next hb)
     replace HR1:=Lib.hid (HR1.out.below hb)
     replace HR2:=Lib.hid (HR2.out.below hb)
     replace HR3:=Lib.hid (HR3.out.below hb)
     replace HR4:=Lib.hid (HR4.out.below hb)
     replace HL:=Lib.hid (LRow.below HL.out hb)
     replace HT:=Lib.hid (HT.out.next hb)
     have hq7:=hb.size
     clear hst hlr hle hb HSx HL HR1 HR2 HR3 HR4
     refine hK.out _ _ ⟨HC1.out.box.cell (j:=0) rfl,HC1.out.box.cell (j:=1) rfl,HC1.out.box.cell (j:=2) rfl,HC1.out.box.cell (j:=3) rfl,HC1.out.box.cell (j:=4) rfl,HC1.out.box.cell (j:=5) rfl,HC1.out.box.cell (j:=6) rfl,HC1.out.box.cell (j:=7) rfl,HC1.out.box.cell (j:=8) rfl,HC1.out.box.cell (j:=9) rfl,HC1.out.box.cell (j:=10) rfl,HC1.out.box.cell (j:=11) rfl,HC1.out.box.cell (j:=12) rfl⟩ ?_
     clear hK K
     refine tkq 11 ?_
     refine tkq 12 ?_
     refine tkq 13 ?_
     refine soq 15 (fun K hK=> ?_)
     refine op_store_bex laySt (.tmp 2) (.tmp 19) rfl v2.heap.size ⟨s1,s2,s3,⟨f1,y1,z1⟩,⟨f2,y2,z2⟩,⟨f3,y3,z3⟩,⟨f4,y4,z4⟩⟩ _ rfl rfl HT.out rfl ?_
     intro v9 hx hw
     replace HSF:=Lib.hid (HSF.out.wrote HT.out (misfits_st _) hw)
     replace HLF:=Lib.hid (LRow.turned HLF.out HT.out ans_misfit (fun k _ hk=>hw.keep k hk))
     replace HBx:=Lib.hid (HBx.out.trans (hw.below _ (by omega)))
     replace HC1:=Lib.hid (HC1.out.wrote hw (by omega))
     replace HT:=Lib.hid hx
     clear hx hw
     refine hK.out _ _ ⟨HC1.out.box.cell (j:=0) rfl,HC1.out.box.cell (j:=1) rfl,HC1.out.box.cell (j:=2) rfl,HC1.out.box.cell (j:=3) rfl,HC1.out.box.cell (j:=4) rfl,HC1.out.box.cell (j:=5) rfl,HC1.out.box.cell (j:=6) rfl,HC1.out.box.cell (j:=7) rfl,HC1.out.box.cell (j:=8) rfl,HC1.out.box.cell (j:=9) rfl,HC1.out.box.cell (j:=10) rfl,HC1.out.box.cell (j:=11) rfl,HC1.out.box.cell (j:=12) rfl⟩ ?_
     clear hK K
     refine tkq 16 ?_
     refine sdq ?_
     go_wp2_with fail
     go_meet
     exact⟨_,_,_,_,rfl,rfl,HT,HSF,HLF,HBx⟩
   ·go_simp
    obtain⟨v2,hwa⟩:∃y,y=v1.alloc (.cells #[.int .i64 0,.int .i64 0,.int .i64 0,.slice none 0 0,.slice none 0 0,.slice none 0 0,.slice none 0 0] 27):=⟨_,rfl⟩
    rw[←hwa]
    have hb:Below v1.heap.size v1 v2:=by rw[hwa];exact(Below.refl _ _).alloc (Nat.le_refl _) _
    have hn0:Bex v2 v1.heap.size (Raw.cells ⟨0,0,0,⟨none,0,0⟩,⟨none,0,0⟩,⟨none,0,0⟩,⟨none,0,0⟩⟩):=by rw[hwa];exact Bex.new v1 (Raw.cells ⟨0,0,0,⟨none,0,0⟩,⟨none,0,0⟩,⟨none,0,0⟩,⟨none,0,0⟩⟩) _
    replace HBx:=Lib.hid (HBx.out.trans (hb.mono HBx.out.size))
    replace HC1:=Lib.hid (HC1.out.next hb)
    replace HSx:=Lib.hid (HSx.out.below hb)
    have HT:=Lib.hid hn0
    have hq1:v1.heap.size< v2.heap.size:=hn0.lt
    clear hb hwa hn0
    refine hK.out _ _ ⟨HC1.out.box.cell (j:=0) rfl,HC1.out.box.cell (j:=1) rfl,HC1.out.box.cell (j:=2) rfl,HC1.out.box.cell (j:=3) rfl,HC1.out.box.cell (j:=4) rfl,HC1.out.box.cell (j:=5) rfl,HC1.out.box.cell (j:=6) rfl,HC1.out.box.cell (j:=7) rfl,HC1.out.box.cell (j:=8) rfl,HC1.out.box.cell (j:=9) rfl,HC1.out.box.cell (j:=10) rfl,HC1.out.box.cell (j:=11) rfl,HC1.out.box.cell (j:=12) rfl⟩ ?_
    clear hK K
    refine soq 2 (fun K hK=> ?_)
    go_simp
    go_at_call 19
    with_reducible refine(HE1.out v2).mono ?_
    rintro e v3 ⟨⟨a1,k1⟩,rfl,hr,hk,hb⟩
    unfold valEnt
    replace HBx:=Lib.hid (HBx.out.trans (hb.mono HBx.out.size))
    replace HC1:=Lib.hid (HC1.out.next hb)
    replace HSx:=Lib.hid (HSx.out.below hb)
    replace HT:=Lib.hid (HT.out.next hb)
    have HR1:=Lib.hid (ent_in hr hk HXO.out.1.1 HXO.out.1.2)
    have hq2:=hb.size
    clear hr hk hb
    refine hK.out _ _ ⟨HC1.out.box.cell (j:=0) rfl,HC1.out.box.cell (j:=1) rfl,HC1.out.box.cell (j:=2) rfl,HC1.out.box.cell (j:=3) rfl,HC1.out.box.cell (j:=4) rfl,HC1.out.box.cell (j:=5) rfl,HC1.out.box.cell (j:=6) rfl,HC1.out.box.cell (j:=7) rfl,HC1.out.box.cell (j:=8) rfl,HC1.out.box.cell (j:=9) rfl,HC1.out.box.cell (j:=10) rfl,HC1.out.box.cell (j:=11) rfl,HC1.out.box.cell (j:=12) rfl⟩ ?_
    clear hK K
    refine soq 4 (fun K hK=> ?_)
    go_simp
    go_at_call 19
    with_reducible refine(HE2.out v3).mono ?_
    rintro e v4 ⟨⟨a2,k2⟩,rfl,hr,hk,hb⟩
    unfold valEnt
    replace HBx:=Lib.hid (HBx.out.trans (hb.mono HBx.out.size))
    replace HC1:=Lib.hid (HC1.out.next hb)
    replace HSx:=Lib.hid (HSx.out.below hb)
    replace HR1:=Lib.hid (HR1.out.below hb)
    replace HT:=Lib.hid (HT.out.next hb)
    have HR2:=Lib.hid (ent_in hr hk HXO.out.2.1.1 HXO.out.2.1.2)
    have hq3:=hb.size
    clear hr hk hb
    refine hK.out _ _ ⟨HC1.out.box.cell (j:=0) rfl,HC1.out.box.cell (j:=1) rfl,HC1.out.box.cell (j:=2) rfl,HC1.out.box.cell (j:=3) rfl,HC1.out.box.cell (j:=4) rfl,HC1.out.box.cell (j:=5) rfl,HC1.out.box.cell (j:=6) rfl,HC1.out.box.cell (j:=7) rfl,HC1.out.box.cell (j:=8) rfl,HC1.out.box.cell (j:=9) rfl,HC1.out.box.cell (j:=10) rfl,HC1.out.box.cell (j:=11) rfl,HC1.out.box.cell (j:=12) rfl⟩ ?_
    clear hK K
    refine soq 6 (fun K hK=> ?_)
    go_simp
    go_at_call 19
    with_reducible refine(HE2.out v4).mono ?_
    rintro e v5 ⟨⟨a3,k3⟩,rfl,hr,hk,hb⟩
    unfold valEnt
    replace HBx:=Lib.hid (HBx.out.trans (hb.mono HBx.out.size))
    replace HC1:=Lib.hid (HC1.out.next hb)
    replace HSx:=Lib.hid (HSx.out.below hb)
    replace HR1:=Lib.hid (HR1.out.below hb)
    replace HR2:=Lib.hid (HR2.out.below hb)
    replace HT:=Lib.hid (HT.out.next hb)
    have HR3:=Lib.hid (ent_in hr hk HXO.out.2.1.1 HXO.out.2.1.2)
    have hq4:=hb.size
    clear hr hk hb
    refine hK.out _ _ ⟨HC1.out.box.cell (j:=0) rfl,HC1.out.box.cell (j:=1) rfl,HC1.out.box.cell (j:=2) rfl,HC1.out.box.cell (j:=3) rfl,HC1.out.box.cell (j:=4) rfl,HC1.out.box.cell (j:=5) rfl,HC1.out.box.cell (j:=6) rfl,HC1.out.box.cell (j:=7) rfl,HC1.out.box.cell (j:=8) rfl,HC1.out.box.cell (j:=9) rfl,HC1.out.box.cell (j:=10) rfl,HC1.out.box.cell (j:=11) rfl,HC1.out.box.cell (j:=12) rfl⟩ ?_
    clear hK K
    refine soq 8 (fun K hK=> ?_)
    go_simp
    go_at_call 19
    with_reducible refine(HE3.out v5).mono ?_
    rintro e v6 ⟨⟨a4,k4⟩,rfl,hr,hk,hb⟩
    unfold valEnt
    replace HBx:=Lib.hid (HBx.out.trans (hb.mono HBx.out.size))
    replace HC1:=Lib.hid (HC1.out.next hb)
    replace HSx:=Lib.hid (HSx.out.below hb)
    replace HR1:=Lib.hid (HR1.out.below hb)
    replace HR2:=Lib.hid (HR2.out.below hb)
    replace HR3:=Lib.hid (HR3.out.below hb)
    replace HT:=Lib.hid (HT.out.next hb)
    have HR4:=Lib.hid (ent_in hr hk HXO.out.2.2.1 HXO.out.2.2.2)
    have hq5:=hb.size
    clear hr hk hb
    refine hK.out _ _ ⟨HC1.out.box.cell (j:=0) rfl,HC1.out.box.cell (j:=1) rfl,HC1.out.box.cell (j:=2) rfl,HC1.out.box.cell (j:=3) rfl,HC1.out.box.cell (j:=4) rfl,HC1.out.box.cell (j:=5) rfl,HC1.out.box.cell (j:=6) rfl,HC1.out.box.cell (j:=7) rfl,HC1.out.box.cell (j:=8) rfl,HC1.out.box.cell (j:=9) rfl,HC1.out.box.cell (j:=10) rfl,HC1.out.box.cell (j:=11) rfl,HC1.out.box.cell (j:=12) rfl⟩ ?_
    clear hK K
    refine soq 9 (fun K hK=> ?_)
    go_simp
    obtain⟨v7,hwa⟩:∃y,y=v6.alloc (.cells #[.int .i64 x1.term,.int .i8 x1.kind,.int .i64 x1.stamp,B x1.set,.slice a1 x1.data.length k1,.int .i64 x2.term,.int .i8 x2.kind,.int .i64 x2.stamp,B x2.set,.slice a2 x2.data.length k2,.int .i64 x2.term,.int .i8 x2.kind,.int .i64 x2.stamp,B x2.set,.slice a3 x2.data.length k3,.int .i64 x3.term,.int .i8 x3.kind,.int .i64 x3.stamp,B x3.set,.slice a4 x3.data.length k4] 45):=⟨_,rfl⟩
    rw[←hwa]
    have hb:Below v6.heap.size v6 v7:=by rw[hwa];exact(Below.refl _ _).alloc (Nat.le_refl _) _
    have hn0:LRow layRw v7 (some ⟨v6.heap.size,0,none⟩) [(x1,(a1,k1)),(x2,(a2,k2)),(x2,(a3,k3)),(x3,(a4,k4))]:=by rw[hwa];exact Row.new v6 _ _ _
    replace HBx:=Lib.hid (HBx.out.trans (hb.mono HBx.out.size))
    replace HC1:=Lib.hid (HC1.out.next hb)
    replace HSx:=Lib.hid (HSx.out.below hb)
    replace HR1:=Lib.hid (HR1.out.below hb)
    replace HR2:=Lib.hid (HR2.out.below hb)
    replace HR3:=Lib.hid (HR3.out.below hb)
    replace HR4:=Lib.hid (HR4.out.below hb)
    replace HT:=Lib.hid (HT.out.next hb)
    have HL:=Lib.hid hn0
    have hq6:=hb.size
    clear hb hwa hn0
    refine hK.out _ _ ⟨HC1.out.box.cell (j:=0) rfl,HC1.out.box.cell (j:=1) rfl,HC1.out.box.cell (j:=2) rfl,HC1.out.box.cell (j:=3) rfl,HC1.out.box.cell (j:=4) rfl,HC1.out.box.cell (j:=5) rfl,HC1.out.box.cell (j:=6) rfl,HC1.out.box.cell (j:=7) rfl,HC1.out.box.cell (j:=8) rfl,HC1.out.box.cell (j:=9) rfl,HC1.out.box.cell (j:=10) rfl,HC1.out.box.cell (j:=11) rfl,HC1.out.box.cell (j:=12) rfl⟩ ?_
    clear hK K
    refine soq 10 (fun K hK=> ?_)
    go_simp
    go_at_call 11
    with_reducible refine(HAL.out v7 _ _ _ _ _ _ _ _ _ _ HSx.out HL.out HR1.out HR2.out HR3.out HR4.out).mono ?_
    rintro e v8 ⟨⟨s1,s2,s3,⟨f1,y1,z1⟩,⟨f2,y2,z2⟩,⟨f3,y3,z3⟩,⟨f4,y4,z4⟩⟩,af,cf,rfl,hst,hlr,hle,hb⟩
    have HSF:=Lib.hid hst
    have HLF:=Lib.hid hlr
    replace HBx:=Lib.hid (HBx.out.trans (hb.mono HBx.out.size))
    replace HC1:=Lib.hid (HC1.out.next hb)
    replace HR1:=Lib.hid (HR1.out.below hb)
    replace HR2:=Lib.hid (HR2.out.below hb)
    replace HR3:=Lib.hid (HR3.out.below hb)
    replace HR4:=Lib.hid (HR4.out.below hb)
    replace HL:=Lib.hid (LRow.below HL.out hb)
    replace HT:=Lib.hid (HT.out.next hb)
    have hq7:=hb.size
    clear hst hlr hle hb HSx HL HR1 HR2 HR3 HR4
    refine hK.out _ _ ⟨HC1.out.box.cell (j:=0) rfl,HC1.out.box.cell (j:=1) rfl,HC1.out.box.cell (j:=2) rfl,HC1.out.box.cell (j:=3) rfl,HC1.out.box.cell (j:=4) rfl,HC1.out.box.cell (j:=5) rfl,HC1.out.box.cell (j:=6) rfl,HC1.out.box.cell (j:=7) rfl,HC1.out.box.cell (j:=8) rfl,HC1.out.box.cell (j:=9) rfl,HC1.out.box.cell (j:=10) rfl,HC1.out.box.cell (j:=11) rfl,HC1.out.box.cell (j:=12) rfl⟩ ?_
    clear hK K
    refine tkq 11 ?_
    refine tkq 12 ?_
    refine tkq 13 ?_
    refine soq 15 (fun K hK=> ?_)
    refine op_store_bex laySt (.tmp 2) (.tmp 19) rfl v1.heap.size ⟨s1,s2,s3,⟨f1,y1,z1⟩,⟨f2,y2,z2⟩,⟨f3,y3,z3⟩,⟨f4,y4,z4⟩⟩ _ rfl rfl HT.out rfl ?_
    intro v9 hx hw
    replace HSF:=Lib.hid (HSF.out.wrote HT.out (misfits_st _) hw)
    replace HLF:=Lib.hid (LRow.turned HLF.out HT.out ans_misfit (fun k _ hk=>hw.keep k hk))
    replace HBx:=Lib.hid (HBx.out.trans (hw.below _ (by omega)))
    replace HC1:=Lib.hid (HC1.out.wrote hw (by omega))
    replace HT:=Lib.hid hx
    clear hx hw
    refine hK.out _ _ ⟨HC1.out.box.cell (j:=0) rfl,HC1.out.box.cell (j:=1) rfl,HC1.out.box.cell (j:=2) rfl,HC1.out.box.cell (j:=3) rfl,HC1.out.box.cell (j:=4) rfl,HC1.out.box.cell (j:=5) rfl,HC1.out.box.cell (j:=6) rfl,HC1.out.box.cell (j:=7) rfl,HC1.out.box.cell (j:=8) rfl,HC1.out.box.cell (j:=9) rfl,HC1.out.box.cell (j:=10) rfl,HC1.out.box.cell (j:=11) rfl,HC1.out.box.cell (j:=12) rfl⟩ ?_
    clear hK K
    refine tkq 16 ?_
    refine sdq ?_
    go_wp2_with fail
    go_meet
    exact⟨_,_,_,_,rfl,rfl,HT,HSF,HLF,HBx⟩
  ·go_simp
   obtain⟨v1,hwa⟩:∃y,y=(w1.alloc (.cells #[.int .i64 0,.int .i64 0,.int .i64 0,.slice none 0 0,.slice none 0 0,.slice none 0 0,.slice none 0 0] 27)).drew:=⟨_,rfl⟩
   rw[←hwa]
   have hb:Below w1.heap.size w1 v1:=by rw[hwa];exact((Below.refl _ _).alloc (Nat.le_refl _) _).drew
   have hn0:Bex v1 w1.heap.size (Raw.cells ⟨0,0,0,⟨none,0,0⟩,⟨none,0,0⟩,⟨none,0,0⟩,⟨none,0,0⟩⟩):=by rw[hwa];exact(Bex.new w1 (Raw.cells ⟨0,0,0,⟨none,0,0⟩,⟨none,0,0⟩,⟨none,0,0⟩,⟨none,0,0⟩⟩) _).drew
   replace HBx:=Lib.hid (HBx.out.trans (hb.mono HBx.out.size))
   replace HC1:=Lib.hid (HC1.out.next hb)
   have HT:=Lib.hid hn0
   have hq0:w1.heap.size< v1.heap.size:=hn0.lt
   clear hb hwa hn0
   refine hK.out _ _ ⟨HC1.out.box.cell (j:=0) rfl,HC1.out.box.cell (j:=1) rfl,HC1.out.box.cell (j:=2) rfl,HC1.out.box.cell (j:=3) rfl,HC1.out.box.cell (j:=4) rfl,HC1.out.box.cell (j:=5) rfl,HC1.out.box.cell (j:=6) rfl,HC1.out.box.cell (j:=7) rfl,HC1.out.box.cell (j:=8) rfl,HC1.out.box.cell (j:=9) rfl,HC1.out.box.cell (j:=10) rfl,HC1.out.box.cell (j:=11) rfl,HC1.out.box.cell (j:=12) rfl⟩ ?_
   clear hK K
   refine soq 0 (fun K hK=> ?_)
   go_simp
   go_at_call 10
   with_reducible refine(new_any v1).mono ?_
   rintro e v2 ⟨⟨q1,q2,q3,⟨l1,j1,i1⟩,⟨l2,j2,i2⟩,⟨l3,j3,i3⟩,⟨l4,j4,i4⟩⟩,rfl,hst,hb⟩
   have HSx:=Lib.hid hst
   replace HBx:=Lib.hid (HBx.out.trans (hb.mono HBx.out.size))
   replace HC1:=Lib.hid (HC1.out.next hb)
   replace HT:=Lib.hid (HT.out.next hb)
   have hq1:=hb.size
   clear hst hb
   refine hK.out _ _ ⟨HC1.out.box.cell (j:=0) rfl,HC1.out.box.cell (j:=1) rfl,HC1.out.box.cell (j:=2) rfl,HC1.out.box.cell (j:=3) rfl,HC1.out.box.cell (j:=4) rfl,HC1.out.box.cell (j:=5) rfl,HC1.out.box.cell (j:=6) rfl,HC1.out.box.cell (j:=7) rfl,HC1.out.box.cell (j:=8) rfl,HC1.out.box.cell (j:=9) rfl,HC1.out.box.cell (j:=10) rfl,HC1.out.box.cell (j:=11) rfl,HC1.out.box.cell (j:=12) rfl⟩ ?_
   clear hK K
   refine soq 2 (fun K hK=> ?_)
   go_simp
   go_at_call 19
   with_reducible refine(HE1.out v2).mono ?_
   rintro e v3 ⟨⟨a1,k1⟩,rfl,hr,hk,hb⟩
   unfold valEnt
   replace HBx:=Lib.hid (HBx.out.trans (hb.mono HBx.out.size))
   replace HC1:=Lib.hid (HC1.out.next hb)
   replace HSx:=Lib.hid (HSx.out.below hb)
   replace HT:=Lib.hid (HT.out.next hb)
   have HR1:=Lib.hid (ent_in hr hk HXO.out.1.1 HXO.out.1.2)
   have hq2:=hb.size
   clear hr hk hb
   refine hK.out _ _ ⟨HC1.out.box.cell (j:=0) rfl,HC1.out.box.cell (j:=1) rfl,HC1.out.box.cell (j:=2) rfl,HC1.out.box.cell (j:=3) rfl,HC1.out.box.cell (j:=4) rfl,HC1.out.box.cell (j:=5) rfl,HC1.out.box.cell (j:=6) rfl,HC1.out.box.cell (j:=7) rfl,HC1.out.box.cell (j:=8) rfl,HC1.out.box.cell (j:=9) rfl,HC1.out.box.cell (j:=10) rfl,HC1.out.box.cell (j:=11) rfl,HC1.out.box.cell (j:=12) rfl⟩ ?_
   clear hK K
   refine soq 4 (fun K hK=> ?_)
   go_simp
   go_at_call 19
   with_reducible refine(HE2.out v3).mono ?_
   rintro e v4 ⟨⟨a2,k2⟩,rfl,hr,hk,hb⟩
   unfold valEnt
   replace HBx:=Lib.hid (HBx.out.trans (hb.mono HBx.out.size))
   replace HC1:=Lib.hid (HC1.out.next hb)
   replace HSx:=Lib.hid (HSx.out.below hb)
   replace HR1:=Lib.hid (HR1.out.below hb)
   replace HT:=Lib.hid (HT.out.next hb)
   have HR2:=Lib.hid (ent_in hr hk HXO.out.2.1.1 HXO.out.2.1.2)
   have hq3:=hb.size
   clear hr hk hb
   refine hK.out _ _ ⟨HC1.out.box.cell (j:=0) rfl,HC1.out.box.cell (j:=1) rfl,HC1.out.box.cell (j:=2) rfl,HC1.out.box.cell (j:=3) rfl,HC1.out.box.cell (j:=4) rfl,HC1.out.box.cell (j:=5) rfl,HC1.out.box.cell (j:=6) rfl,HC1.out.box.cell (j:=7) rfl,HC1.out.box.cell (j:=8) rfl,HC1.out.box.cell (j:=9) rfl,HC1.out.box.cell (j:=10) rfl,HC1.out.box.cell (j:=11) rfl,HC1.out.box.cell (j:=12) rfl⟩ ?_
   clear hK K
   refine soq 6 (fun K hK=> ?_)
   go_simp
   go_at_call 19
   with_reducible refine(HE2.out v4).mono ?_
   rintro e v5 ⟨⟨a3,k3⟩,rfl,hr,hk,hb⟩
   unfold valEnt
   replace HBx:=Lib.hid (HBx.out.trans (hb.mono HBx.out.size))
   replace HC1:=Lib.hid (HC1.out.next hb)
   replace HSx:=Lib.hid (HSx.out.below hb)
   replace HR1:=Lib.hid (HR1.out.below hb)
   replace HR2:=Lib.hid (HR2.out.below hb)
   replace HT:=Lib.hid (HT.out.next hb)
   have HR3:=Lib.hid (ent_in hr hk HXO.out.2.1.1 HXO.out.2.1.2)
   have hq4:=hb.size
   clear hr hk hb
   refine hK.out _ _ ⟨HC1.out.box.cell (j:=0) rfl,HC1.out.box.cell (j:=1) rfl,HC1.out.box.cell (j:=2) rfl,HC1.out.box.cell (j:=3) rfl,HC1.out.box.cell (j:=4) rfl,HC1.out.box.cell (j:=5) rfl,HC1.out.box.cell (j:=6) rfl,HC1.out.box.cell (j:=7) rfl,HC1.out.box.cell (j:=8) rfl,HC1.out.box.cell (j:=9) rfl,HC1.out.box.cell (j:=10) rfl,HC1.out.box.cell (j:=11) rfl,HC1.out.box.cell (j:=12) rfl⟩ ?_
   clear hK K
   refine soq 8 (fun K hK=> ?_)
   go_simp
   go_at_call 19
   with_reducible refine(HE3.out v5).mono ?_
   rintro e v6 ⟨⟨a4,k4⟩,rfl,hr,hk,hb⟩
   unfold valEnt
   replace HBx:=Lib.hid (HBx.out.trans (hb.mono HBx.out.size))
   replace HC1:=Lib.hid (HC1.out.next hb)
   replace HSx:=Lib.hid (HSx.out.below hb)
   replace HR1:=Lib.hid (HR1.out.below hb)
   replace HR2:=Lib.hid (HR2.out.below hb)
   replace HR3:=Lib.hid (HR3.out.below hb)
   replace HT:=Lib.hid (HT.out.next hb)
   have HR4:=Lib.hid (ent_in hr hk HXO.out.2.2.1 HXO.out.2.2.2)
   have hq5:=hb.size
   clear hr hk hb
   refine hK.out _ _ ⟨HC1.out.box.cell (j:=0) rfl,HC1.out.box.cell (j:=1) rfl,HC1.out.box.cell (j:=2) rfl,HC1.out.box.cell (j:=3) rfl,HC1.out.box.cell (j:=4) rfl,HC1.out.box.cell (j:=5) rfl,HC1.out.box.cell (j:=6) rfl,HC1.out.box.cell (j:=7) rfl,HC1.out.box.cell (j:=8) rfl,HC1.out.box.cell (j:=9) rfl,HC1.out.box.cell (j:=10) rfl,HC1.out.box.cell (j:=11) rfl,HC1.out.box.cell (j:=12) rfl⟩ ?_
   clear hK K
   refine soq 9 (fun K hK=> ?_)
   go_simp
   obtain⟨v7,hwa⟩:∃y,y=v6.alloc (.cells #[.int .i64 x1.term,.int .i8 x1.kind,.int .i64 x1.stamp,B x1.set,.slice a1 x1.data.length k1,.int .i64 x2.term,.int .i8 x2.kind,.int .i64 x2.stamp,B x2.set,.slice a2 x2.data.length k2,.int .i64 x2.term,.int .i8 x2.kind,.int .i64 x2.stamp,B x2.set,.slice a3 x2.data.length k3,.int .i64 x3.term,.int .i8 x3.kind,.int .i64 x3.stamp,B x3.set,.slice a4 x3.data.length k4] 45):=⟨_,rfl⟩
   rw[←hwa]
   have hb:Below v6.heap.size v6 v7:=by rw[hwa];exact(Below.refl _ _).alloc (Nat.le_refl _) _
   have hn0:LRow layRw v7 (some ⟨v6.heap.size,0,none⟩) [(x1,(a1,k1)),(x2,(a2,k2)),(x2,(a3,k3)),(x3,(a4,k4))]:=by rw[hwa];exact Row.new v6 _ _ _
   replace HBx:=Lib.hid (HBx.out.trans (hb.mono HBx.out.size))
   replace HC1:=Lib.hid (HC1.out.next hb)
   replace HSx:=Lib.hid (HSx.out.below hb)
   replace HR1:=Lib.hid (HR1.out.below hb)
   replace HR2:=Lib.hid (HR2.out.below hb)
   replace HR3:=Lib.hid (HR3.out.below hb)
   replace HR4:=Lib.hid (HR4.out.below hb)
   replace HT:=Lib.hid (HT.out.next hb)
   have HL:=Lib.hid hn0
   have hq6:=hb.size
   clear hb hwa hn0
   refine hK.out _ _ ⟨HC1.out.box.cell (j:=0) rfl,HC1.out.box.cell (j:=1) rfl,HC1.out.box.cell (j:=2) rfl,HC1.out.box.cell (j:=3) rfl,HC1.out.box.cell (j:=4) rfl,HC1.out.box.cell (j:=5) rfl,HC1.out.box.cell (j:=6) rfl,HC1.out.box.cell (j:=7) rfl,HC1.out.box.cell (j:=8) rfl,HC1.out.box.cell (j:=9) rfl,HC1.out.box.cell (j:=10) rfl,HC1.out.box.cell (j:=11) rfl,HC1.out.box.cell (j:=12) rfl⟩ ?_
   clear hK K
   refine soq 10 (fun K hK=> ?_)
   go_simp
   go_at_call 11
   with_reducible refine(HAL.out v7 _ _ _ _ _ _ _ _ _ _ HSx.out HL.out HR1.out HR2.out HR3.out HR4.out).mono ?_
   rintro e v8 ⟨⟨s1,s2,s3,⟨f1,y1,z1⟩,⟨f2,y2,z2⟩,⟨f3,y3,z3⟩,⟨f4,y4,z4⟩⟩,af,cf,rfl,hst,hlr,hle,hb⟩
   have HSF:=Lib.hid hst
   have HLF:=Lib.hid hlr
   replace HBx:=Lib.hid (HBx.out.trans (hb.mono HBx.out.size))
   replace HC1:=Lib.hid (HC1.out.next hb)
   replace HR1:=Lib.hid (HR1.out.below hb)
   replace HR2:=Lib.hid (HR2.out.below hb)
   replace HR3:=Lib.hid (HR3.out.below hb)
   replace HR4:=Lib.hid (HR4.out.below hb)
   replace HL:=Lib.hid (LRow.below HL.out hb)
   replace HT:=Lib.hid (HT.out.next hb)
   have hq7:=hb.size
   clear hst hlr hle hb HSx HL HR1 HR2 HR3 HR4
   refine hK.out _ _ ⟨HC1.out.box.cell (j:=0) rfl,HC1.out.box.cell (j:=1) rfl,HC1.out.box.cell (j:=2) rfl,HC1.out.box.cell (j:=3) rfl,HC1.out.box.cell (j:=4) rfl,HC1.out.box.cell (j:=5) rfl,HC1.out.box.cell (j:=6) rfl,HC1.out.box.cell (j:=7) rfl,HC1.out.box.cell (j:=8) rfl,HC1.out.box.cell (j:=9) rfl,HC1.out.box.cell (j:=10) rfl,HC1.out.box.cell (j:=11) rfl,HC1.out.box.cell (j:=12) rfl⟩ ?_
   clear hK K
   refine tkq 11 ?_
   refine tkq 12 ?_
   refine tkq 13 ?_
   refine soq 15 (fun K hK=> ?_)
   refine op_store_bex laySt (.tmp 2) (.tmp 19) rfl w1.heap.size ⟨s1,s2,s3,⟨f1,y1,z1⟩,⟨f2,y2,z2⟩,⟨f3,y3,z3⟩,⟨f4,y4,z4⟩⟩ _ rfl rfl HT.out rfl ?_
   intro v9 hx hw
   replace HSF:=Lib.hid (HSF.out.wrote HT.out (misfits_st _) hw)
   replace HLF:=Lib.hid (LRow.turned HLF.out HT.out ans_misfit (fun k _ hk=>hw.keep k hk))
   replace HBx:=Lib.hid (HBx.out.trans (hw.below _ (by omega)))
   replace HC1:=Lib.hid (HC1.out.wrote hw (by omega))
   replace HT:=Lib.hid hx
   clear hx hw
   refine hK.out _ _ ⟨HC1.out.box.cell (j:=0) rfl,HC1.out.box.cell (j:=1) rfl,HC1.out.box.cell (j:=2) rfl,HC1.out.box.cell (j:=3) rfl,HC1.out.box.cell (j:=4) rfl,HC1.out.box.cell (j:=5) rfl,HC1.out.box.cell (j:=6) rfl,HC1.out.box.cell (j:=7) rfl,HC1.out.box.cell (j:=8) rfl,HC1.out.box.cell (j:=9) rfl,HC1.out.box.cell (j:=10) rfl,HC1.out.box.cell (j:=11) rfl,HC1.out.box.cell (j:=12) rfl⟩ ?_
   clear hK K
   refine tkq 16 ?_
   refine sdq ?_
   go_wp2_with fail
   go_meet
   exact⟨_,_,_,_,rfl,rfl,HT,HSF,HLF,HBx⟩
 case rest=>
  obtain⟨g2,⟨s1,s2,s3,⟨f1,y1,z1⟩,⟨f2,y2,z2⟩,⟨f3,y3,z3⟩,⟨f4,y4,z4⟩⟩,af,cf,rfl,rfl,HT,HSF,HLF,HBx⟩:=hcut
  have HTK:Hid (∀w',StAt w' 0 ⟨s1,s2,s3,⟨f1,y1,z1⟩,⟨f2,y2,z2⟩,⟨f3,y3,z3⟩,⟨f4,y4,z4⟩⟩ wkS→Calls Tryz.prog 20 #[Raw.agg ⟨s1,s2,s3,⟨f1,y1,z1⟩,⟨f2,y2,z2⟩,⟨f3,y3,z3⟩,⟨f4,y4,z4⟩⟩,.int .i64 1] w' (fun e w''=>e= .returned (.tuple #[.int .i64 10000,.int .i64 40])∧Below w'.heap.size w' w'')):=Lib.hid (fun w' hs=>tokens_any wkS ⟨s1,s2,s3,⟨f1,y1,z1⟩,⟨f2,y2,z2⟩,⟨f3,y3,z3⟩,⟨f4,y4,z4⟩⟩ 0 1 w' hs wk_fits (by decide) (by decide) (by decide))
  have HCK:Hid (∀w',StAt w' 0 ⟨s1,s2,s3,⟨f1,y1,z1⟩,⟨f2,y2,z2⟩,⟨f3,y3,z3⟩,⟨f4,y4,z4⟩⟩ wkS→Calls Tryz.prog 21 #[Raw.agg ⟨s1,s2,s3,⟨f1,y1,z1⟩,⟨f2,y2,z2⟩,⟨f3,y3,z3⟩,⟨f4,y4,z4⟩⟩] w' (fun e w''=>e= .returned (.bool true)∧Below w'.heap.size w' w'')):=Lib.hid (fun w' hs=>by
   have h:=check_sta wkS ⟨s1,s2,s3,⟨f1,y1,z1⟩,⟨f2,y2,z2⟩,⟨f3,y3,z3⟩,⟨f4,y4,z4⟩⟩ 0 w' hs (by decide) (by decide) (by decide) (by decide)
   rw[wk_sok]at h
   exact h)
  go_upto_region 6 with(first|((with_reducible refine at_load 27 (.tmp 2) ?_);refine wpList_load_as laySt rfl (.tmp 2) rfl g2 0 rfl ⟨s1,s2,s3,⟨f1,y1,z1⟩,⟨f2,y2,z2⟩,⟨f3,y3,z3⟩,⟨f4,y4,z4⟩⟩ (Raw.agg ⟨s1,s2,s3,⟨f1,y1,z1⟩,⟨f2,y2,z2⟩,⟨f3,y3,z3⟩,⟨f4,y4,z4⟩⟩) rfl HT.out.box.range ?_)|(go_at_call 20;((with_reducible refine(HTK.out _ HSF.out).mono ?_);rintro e w3 ⟨rfl,hb⟩;replace HBx:=Lib.hid (HBx.out.trans (hb.mono HBx.out.size));replace HT:=Lib.hid (HT.out.next hb);replace HSF:=Lib.hid (HSF.out.below hb);replace HLF:=Lib.hid (LRow.below HLF.out hb);clear hb HTK)))
  (try simp only[Act.put])
  obtain⟨b,o,rfl,hcs⟩:=LRow.range HLF.out (show 0<wkA.length by decide)
  have HAC:Hid (∀w',Below w3.heap.size w3 w'→(w'.cell? ⟨b,o,none⟩=some (.int .i64 0)∧w'.cell? ⟨b,o+1,none⟩=some (.int .i64 1000)∧w'.cell? ⟨b,o+2,none⟩=some (.int .i64 100)∧w'.cell? ⟨b,o+3,none⟩=some (.int .i64 0)∧w'.cell? ⟨b,o+4,none⟩=some (.int .i64 0)∧w'.cell? ⟨b,o+5,none⟩=some (.int .i64 0)∧w'.cell? ⟨b,o+5+ 1,none⟩=some (.int .i64 1000)∧w'.cell? ⟨b,o+5+ 2,none⟩=some (.int .i64 100)∧w'.cell? ⟨b,o+5+ 3,none⟩=some (.int .i64 1)∧w'.cell? ⟨b,o+5+ 4,none⟩=some (.int .i64 40)∧w'.cell? ⟨b,o+10,none⟩=some (.int .i64 0)∧w'.cell? ⟨b,o+10+ 1,none⟩=some (.int .i64 1000)∧w'.cell? ⟨b,o+10+ 2,none⟩=some (.int .i64 100)∧w'.cell? ⟨b,o+10+ 3,none⟩=some (.int .i64 1)∧w'.cell? ⟨b,o+10+ 4,none⟩=some (.int .i64 40)∧w'.cell? ⟨b,o+15,none⟩=some (.int .i64 161)∧w'.cell? ⟨b,o+15+ 1,none⟩=some (.int .i64 0)∧w'.cell? ⟨b,o+15+ 2,none⟩=some (.int .i64 0)∧w'.cell? ⟨b,o+15+ 3,none⟩=some (.int .i64 0)∧w'.cell? ⟨b,o+15+ 4,none⟩=some (.int .i64 0))):=Lib.hid (fun w' hb=>by
   have hl:=LRow.below HLF.out hb
   obtain⟨b0,o0,e0,r0⟩:=LRow.range hl (show 0<wkA.length by decide)
   obtain⟨b1,o1,e1,r1⟩:=LRow.range hl (show 1<wkA.length by decide)
   obtain⟨b2,o2,e2,r2⟩:=LRow.range hl (show 2<wkA.length by decide)
   obtain⟨b3,o3,e3,r3⟩:=LRow.range hl (show 3<wkA.length by decide)
   cases e0;cases e1;cases e2;cases e3
   replace r0:=r0 w' (Below.refl _ _)
   replace r1:=r1 w' (Below.refl _ _)
   replace r2:=r2 w' (Below.refl _ _)
   replace r3:=r3 w' (Below.refl _ _)
   exact⟨r0 0 _ rfl,r0 1 _ rfl,r0 2 _ rfl,r0 3 _ rfl,r0 4 _ rfl,r1 0 _ rfl,r1 1 _ rfl,r1 2 _ rfl,r1 3 _ rfl,r1 4 _ rfl,r2 0 _ rfl,r2 1 _ rfl,r2 2 _ rfl,r2 3 _ rfl,r2 4 _ rfl,r3 0 _ rfl,r3 1 _ rfl,r3 2 _ rfl,r3 3 _ rfl,r3 4 _ rfl⟩)
  have HB3:Hid (Below w3.heap.size w3 w3):=Below.refl _ _
  clear hcs HLF
  refine wrq (fun l w'=>((w'.cell? ⟨b,o,none⟩=some (.int .i64 0)∧w'.cell? ⟨b,o+1,none⟩=some (.int .i64 1000)∧w'.cell? ⟨b,o+2,none⟩=some (.int .i64 100)∧w'.cell? ⟨b,o+3,none⟩=some (.int .i64 0)∧w'.cell? ⟨b,o+4,none⟩=some (.int .i64 0)∧w'.cell? ⟨b,o+5,none⟩=some (.int .i64 0)∧w'.cell? ⟨b,o+5+ 1,none⟩=some (.int .i64 1000)∧w'.cell? ⟨b,o+5+ 2,none⟩=some (.int .i64 100)∧w'.cell? ⟨b,o+5+ 3,none⟩=some (.int .i64 1)∧w'.cell? ⟨b,o+5+ 4,none⟩=some (.int .i64 40)∧w'.cell? ⟨b,o+10,none⟩=some (.int .i64 0)∧w'.cell? ⟨b,o+10+ 1,none⟩=some (.int .i64 1000)∧w'.cell? ⟨b,o+10+ 2,none⟩=some (.int .i64 100)∧w'.cell? ⟨b,o+10+ 3,none⟩=some (.int .i64 1)∧w'.cell? ⟨b,o+10+ 4,none⟩=some (.int .i64 40)∧w'.cell? ⟨b,o+15,none⟩=some (.int .i64 161)∧w'.cell? ⟨b,o+15+ 1,none⟩=some (.int .i64 0)∧w'.cell? ⟨b,o+15+ 2,none⟩=some (.int .i64 0)∧w'.cell? ⟨b,o+15+ 3,none⟩=some (.int .i64 0)∧w'.cell? ⟨b,o+15+ 4,none⟩=some (.int .i64 0))∧(w'.cell? ⟨g2,0,none⟩=some (.int .i64 s1)∧w'.cell? ⟨g2,1,none⟩=some (.int .i64 s2)∧w'.cell? ⟨g2,2,none⟩=some (.int .i64 s3)∧w'.cell? ⟨g2,3,none⟩=some (.slice f1 y1 z1)∧w'.cell? ⟨g2,4,none⟩=some (.slice f2 y2 z2)∧w'.cell? ⟨g2,5,none⟩=some (.slice f3 y3 z3)∧w'.cell? ⟨g2,6,none⟩=some (.slice f4 y4 z4)))) ?_
  refine toS ⟨HAC.out _ (HB3.out.drew),HT.out.drew.box.cell (j:=0) rfl,HT.out.drew.box.cell (j:=1) rfl,HT.out.drew.box.cell (j:=2) rfl,HT.out.drew.box.cell (j:=3) rfl,HT.out.drew.box.cell (j:=4) rfl,HT.out.drew.box.cell (j:=5) rfl,HT.out.drew.box.cell (j:=6) rfl⟩ ?_
  refine tkq 0 ?_
  refine tkq 1 ?_
  refine tkq 2 ?_
  refine tkq 3 ?_
  refine tkq 4 ?_
  refine tkq 5 ?_
  refine tkq 6 ?_
  refine tkq 7 ?_
  refine tkq 8 ?_
  refine tkq 9 ?_
  refine tkq 10 ?_
  refine tkq 11 ?_
  refine tkq 12 ?_
  refine tkq 13 ?_
  refine tkq 14 ?_
  refine tkq 15 ?_
  refine tkq 16 ?_
  refine tkq 17 ?_
  refine tkq 18 ?_
  refine tkq 19 ?_
  refine tkq 20 ?_
  refine tkq 21 ?_
  refine tkq 22 ?_
  refine tkq 23 ?_
  refine tkq 24 ?_
  refine tkq 25 ?_
  refine tkq 26 ?_
  refine tkq 27 ?_
  refine tkq 28 ?_
  refine tkq 29 ?_
  refine tkq 30 ?_
  refine tkq 31 ?_
  refine tkq 32 ?_
  refine tkq 33 ?_
  refine tkq 34 ?_
  refine tkq 35 ?_
  refine tkq 36 ?_
  refine tkq 37 ?_
  refine soq 38 (fun K hK=> ?_)
  go_simp
  go_at_call 21
  with_reducible refine(HCK.out w3.drew (HSF.out.below ((Below.refl _ _).drew))).mono ?_
  rintro e w4 ⟨rfl,hb⟩
  replace hb:Below w3.heap.size w3 w4:=⟨hb.os,hb.tape,hb.output,hb.size,hb.block⟩
  replace HBx:=Lib.hid (HBx.out.trans (hb.mono HBx.out.size))
  replace HB3:Hid (Below w3.heap.size w3 w4):=hb
  replace HT:=Lib.hid (HT.out.next hb)
  clear hb
  refine hK.out _ _ ⟨HAC.out _ HB3.out,HT.out.box.cell (j:=0) rfl,HT.out.box.cell (j:=1) rfl,HT.out.box.cell (j:=2) rfl,HT.out.box.cell (j:=3) rfl,HT.out.box.cell (j:=4) rfl,HT.out.box.cell (j:=5) rfl,HT.out.box.cell (j:=6) rfl⟩ ?_
  clear hK K
  refine tkq 39 ?_
  refine tkq 40 ?_
  refine sdq ?_
  go_wp2_with fail
  go_returns
  exact⟨rfl,HBx.out⟩
end Go.Proofs.YtfdmhpohfjbpfaaGreat
