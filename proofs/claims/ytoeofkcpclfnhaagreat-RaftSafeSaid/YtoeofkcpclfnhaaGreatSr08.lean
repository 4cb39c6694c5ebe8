import Derived.Test.YtoeofkcpclfnhaaGreatSr07
set_option linter.unusedVariables false
set_option linter.unusedSimpArgs false
namespace Go.Proofs.YtoeofkcpclfnhaaGreat
open Go.ChangeShapes Go.WideShapes Go.ChangeAt Go.RowKit
set_option maxRecDepth 100000
set_option maxHeartbeats 16000000
theorem el_ints:Elem Tryz.prog 36 3 1 8 where
 under:=Tryz.underlying36
 info:=by
  have h:(Tryz.prog.info? 3).map (fun i=>(i.zero,i.size,i.bytes))=some (some (.int .i64 0),1,8):=k_;obtain⟨i,hi,h0,h1,h2⟩:=info_parts h;exact⟨i,_,hi,h0,h1,h2,rfl⟩
 pos:=d_
 bpos:=d_
abbrev OwnI(w:World)(B:Nat)(a:Option Addr)(n c:Nat)(xs:List Int):Prop:= w.ownsRow B 3 1 (.slice a n c) n (ints xs)
theorem OwnI.next{w w':World}{B:Nat}{a:Option Addr}{n c:Nat}{xs:List Int}(h:OwnI w B a n c xs)(hb:Below w.heap.size w w'):OwnI w' B a n c xs:=
 own_mid (B:=0) h (Mid.below hb n_) (Nat.zero_le _) n_
theorem wpList_int1{ops:Array Oper}{rest:List Oper}{op:Oper}{ac:Act}{w:World}{te:TypeId}{Q:Exit→ Act→World→ Prop}(hgd:op.guard= none)(s x:Operand)(ho:op.op= .call {callee:= .builtin .append,args:= #[s,x],argTypes:= #[36,36]})(B:Nat)(a:Option Addr)(n c:Nat)(xs:List Int)(hs:ac.eval s= .slice a n c)(hown:OwnI w B a n c xs)(y:Int)(H:Nat)(hH:w.heap.size= H)(hx:ac.eval x= .slice (some ⟨H,0,none⟩) 1 1)(hby:(n+1)*8≤ 140737488355328)(hB:B≤ w.heap.size)(h:∀a' c' w',OwnI w' B a' (n+1) c' (xs++[y])→Below B w w'→w.heap.size< w'.heap.size→wpList Tryz.prog ops Q rest (ac.put op.dst (.slice a' (n+1) c')) w'):wpList Tryz.prog ops Q (op::rest) ac (w.alloc (.cells #[.int .i64 y] te)):=by
 subst hH;refine wpList_app el_ints hgd s x ho B (.slice a n c) n _ hs (hown.alloc _) (some ⟨w.heap.size,0,none⟩) 1 1 [.int .i64 y] hx rfl (Row.new _ _ _ _) (by simp[Value.oneCell']) hby (Nat.le_trans hB (by simp)) ?_;intro a' c' w' ho2 hg2;have hbb:=Below.app ((Below.refl B w).alloc hB (.cells #[.int .i64 y] te)) (hown.alloc _) hg2 (Nat.le_trans hB (by simp));refine h a' c' w' ?_ hbb ?_
 ·show World.ownsRow _ _ _ _ _ _ _
  rw[show ints (xs++[y])=ints xs++[.int .i64 y]from List.map_append];exact ho2
 ·have:=hg2.size;simp at this;omega
theorem OwnI.box{w:World}{B:Nat}{a:Option Addr}{n c:Nat}{xs:List Int}(h:OwnI w B a n c xs)(h0:0< n)(hn:xs.length= n):∃g,a=some ⟨g,0,none⟩∧B≤ g∧n≤ c∧Box w g (ints xs):=by
 obtain⟨hl,h⟩:=h;rcases h with⟨hv,hz⟩|⟨g,cap,cur,hv,hB,hg,hnc,hm,hs,ht⟩
 ·omega
 ·simp only[Value.slice.injEq]at hv;obtain⟨rfl,_,rfl⟩:=hv;have hcell:∀j,w.cell? ⟨g,0+j,none⟩=cur[j]?:=fun j=>by simp[World.cell?,hg]
  refine⟨g,rfl,hB,hnc,fun j v hv=> ?_,fun j hj=> ?_⟩
  ·rw[hcell];rw[←ht,List.getElem?_take]at hv
   split at hv
   ·simpa using hv
   ·cases hv
  ·rw[List.length_map,hn]at hj;rw[hcell,Array.getElem?_eq_getElem o_];exact⟨rfl,by simp[World.frozen?,hg]⟩
def beg(set:Nat)(self last:Int):Nat→ List Prg
 |0=> []
 |j+ 1=>beg set self last j++(if(((j+1: Nat):Int) !=self)&&inSet set (j+1)then[⟨((j+1: Nat):Int),0,last+1⟩]else[])
theorem beg_len(set:Nat)(self last:Int):∀j,(beg set self last j).length≤j
 |0=> Nat.le_refl _
 |j+ 1=>by
  have:=beg_len set self last j;unfold beg
  split<;>simp<;>omega
def beginF(b t:Int)(es:List WEnt)(set:Nat)(self:Int):List Prg:=if okR b t es=true then beg set self (b+es.length) 7 else[]
def RetRowP(w:World)(xs:List Prg)(e:Ending)(w':World):Prop:= ∃a c,e= .returned (.slice a xs.length c)∧LRow layPrg w' a xs∧Below w.heap.size w w'∧xs.length≤ c∧(xs≠[]→∀b o s,a=some ⟨b,o,s⟩→w.heap.size≤ b)∧(a=none→ c=0)
abbrev OwnP(w:World)(B:Nat)(a:Option Addr)(n c:Nat)(xs:List Prg):Prop:= w.ownsRow B 116 layPrg.size (.slice a n c) n (xs.flatMap layPrg.cells)
theorem OwnP.next{w w':World}{B:Nat}{a:Option Addr}{n c:Nat}{xs:List Prg}(h:OwnP w B a n c xs)(hb:Below w.heap.size w w'):OwnP w' B a n c xs:=
 own_mid (B:=0) h (Mid.below hb n_) (Nat.zero_le _) n_
theorem OwnP.cap{w:World}{B:Nat}{a:Option Addr}{n c:Nat}{xs:List Prg}(h:OwnP w B a n c xs):n≤ c:=by
 rcases h.2 with⟨hv,h1⟩|⟨g,cap,cur,hv,hB,hg,hnc,hm,hs,ht⟩
 ·omega
 ·simp only[Value.slice.injEq]at hv;obtain⟨_,_,rfl⟩:=hv;exact hnc
theorem own_none{w:World}{B:Nat}{e:TypeId}{size:Nat}{a:Option Addr}{n c:Nat}{xs:List Value}(h:w.ownsRow B e size (.slice a n c) n xs):a= none→c= 0:=fun ha=>by
 obtain⟨a',c',hv,_,_,hz⟩:=own_slice h;simp only[Value.slice.injEq]at hv;rw[hv.2.2];exact hz (by rw[←hv.1];exact ha)
theorem tq18 {P:Prop}(h:P:=by
 go_wp2_with(go_at_call 97;((with_reducible refine(HS.out _).mono ?_);rintro e w3 ⟨rfl,rfl⟩));go_roundw
 case rel=>exact ⟨k+1,a1,c1,ml,by omega,by omega,by go_num,rfl,(by show beg _ _ _ (k+1- 1)=_;rw[Nat.add_sub_cancel,HE2.out];simp),by omega,HOW.out,HBL.out⟩
 case measure=>simp [intOf];omega):P:=h
theorem begin_any(es:List RwE)(b t:Int)(a:Option Addr)(n c:Nat)(s:UInt8)(self:Int)(w:World)(hn:es.length= n)(hl:n≤ 1000000)(hr:Row w a (es.flatMap cellsRw)):
 Calls Tryz.prog 81 #[.agg #[.int .i64 b,.int .i64 t,.slice a n c],B s,.int .i64 self] w (RetRowP w (beginF b t (ents es) s.toNat self)):=by
 have hlen:(ents es).length=n:= by rw[←hn];exact List.length_map _
 have HB0:Hid (Below w.heap.size w (w.alloc (.cells #[.int .i64 b,.int .i64 t,.slice a n c] 33))):=mid_alloc' b_;have HX0:Hid (Box (w.alloc (.cells #[.int .i64 b,.int .i64 t,.slice a n c] 33)) w.heap.size [.int .i64 b,.int .i64 t,.slice a n c]):=Box.of_alloc (w:=w) (cs:=[.int .i64 b,.int .i64 t,.slice a n c]) (t:=33) b_;have HC:=h_ (fun w' (hb:Below w.heap.size w w')=>check_any es b t a n c w' hn hl (hr.mono_below hb));have HLV:=h_ (fun w' (hb:Below w.heap.size w w')=>lastV_any es b t a n c w' hn hl (hr.mono_below hb));have HSM:=h_ (fun k w' h1 h2=>has_any s k w' h1 h2);rcases hok:okR b t (ents es)with _|_
 ·rw[chk_not hok]at HC;rw[show beginF b t (ents es) s.toNat self=[]from if_neg (by rw[hok];exact Bool.false_ne_true)];clear hok hlen hr hn HLV HSM;go_enter Tryz.func81,Tryz.ntmps81;go_wp2_with(go_at_call 18;((with_reducible refine(HC.out _ HB0.out).mono ?_);rintro e w1 ⟨rfl,hb⟩;have HB1:=h_ (HB0.trans (hb.mono HB0.size));clear hb));go_ret;exact⟨none,0,rfl,.inl rfl,HB1.out,Nat.le_refl _,fun h=>absurd rfl h,fun _=>rfl⟩
 have hob:=ok_bounds hok;have hb1:0≤ b:=hob.1;have hb2:b+ (n:Int)≤1099511627776:= by have:=hob.2.2.1;rw[hlen]at this;exact this
 rw[chk_ok hok]at HC;rw[lastF_ok hok,hlen]at HLV;rw[show beginF b t (ents es) s.toNat self=beg s.toNat self (b+((ents es).length:Int)) 7 from if_pos hok,hlen];generalize lastT t (ents es)=lt at HLV;have HMM:=h_ (fun k=>(show beg s.toNat self (b+(n:Int)) (k+1)=beg s.toNat self (b+(n:Int)) k++(if(((k+1: Nat):Int) !=self)&&inSet s.toNat (k+1)then[⟨((k+1: Nat):Int),0,b+(n:Int)+1⟩]else[])from rfl));have HM0:Hid (beg s.toNat self (b+(n:Int)) 0=[]):=rfl;obtain⟨r,hrr⟩:∃r,beg s.toNat self (b+(n:Int)) 7=r:= ⟨_,rfl⟩;rw[hrr];have HRR:=h_ hrr;clear hrr hok hlen hr hn hob;go_enter Tryz.func81,Tryz.ntmps81;go_wp2_with(first|(have hgq:=HX1;clear hgq;go_at_call 74;((with_reducible refine(HLV.out _ HB1.out).mono ?_);rintro e w2 ⟨rfl,hb⟩;have HX2:=h_ (HX1.next (by simp) hb);have HB2:=h_ (HB1.trans (hb.mono HB1.size));clear hb))|(go_at_call 18;((with_reducible refine(HC.out _ HB0.out).mono ?_);rintro e w1 ⟨rfl,hb⟩;have HX1:=h_ (HX0.next (by simp) hb);have HB1:=h_ (HB0.trans (hb.mono HB0.size));clear hb;have k0:=HX1.cell (j:=0) rfl;have k1:=HX1.cell (j:=1) rfl;have k2:=HX1.cell (j:=2) rfl)));clear k0 k1 k2;go_loopw [9,10] (fun mt nn wr=>∃(k:Nat) (a1:Option Addr) (c1:Nat) (ml:List Prg),1≤k∧ k≤8∧ nn= .int .i64 k∧mt= .slice a1 ml.length c1∧Hid (beg s.toNat self (b+(n:Int)) (k-1)=ml)∧ml.length≤ k-1∧ Hid (OwnP wr w.heap.size a1 ml.length c1 ml)∧Hid (Below w.heap.size w wr)) (fun _ nn _=>8- (intOf nn).toNat)
 case atStart=>exact ⟨1,none,0,[],by omega,by omega,rfl,rfl,HM0.out,by simp,World.ownsRow_nil _ _ _ _,HB2.out⟩
 case round=>
  clear HB0 HX0 HX1 HB1 HX2 HB2 HM0 HC HLV;obtain⟨k,a1,c1,ml,hk1,hk8,rfl,rfl,HE,hm7,HOW,HBL⟩:=hrel;by_cases h7:k≤ 7
  ·have HS:=h_ (fun w'=>HSM.out k w' hk1 h7);have ek:k- 1+1= k:=o_;have HE2:=h_ (HMM (k-1));rw[ek,HE.out]at HE2;have hsz:=HBL.size;clear HSM HMM ek;rcases he:((k:Int) !=self)with _|_
   ·rw[he,Bool.false_and]at HE2;exact tq18
   ·rw[he,Bool.true_and]at HE2;rcases hin:inSet s.toNat k with _|_
    all_goals rw[hin]at HS HE2
    ·exact tq18
    ·go_wp2_with(first|(at_builtin;refine wpList_app1 layPrg Tryz.underlying69 rfl (.tmp 31) (.tmp 36) rfl w.heap.size a1 ml.length c1 ml rfl HOW.out ⟨(k:Int),0,b+(n:Int)+1⟩ rfl rfl (by show _*24≤ _;omega) hsz ?_;intro a4 c4 w4 how4 hb4;have HOW4:=h_ how4;have HB4:=h_ (HBL.trans hb4);clear how4 hb4)|(go_at_call 97;((with_reducible refine(HS.out _).mono ?_);rintro e w3 ⟨rfl,rfl⟩)));go_roundw
     case rel=>exact ⟨k+1,a4,c4,ml++[⟨(k:Int),0,b+(n:Int)+1⟩],by omega,by omega,by go_num,by simp,(by show beg _ _ _ (k+1- 1)=_;rw[Nat.add_sub_cancel,HE2.out];rfl),by simp;omega,(by(show OwnP _ _ _ _ _ _);rw[List.length_append];exact HOW4.out),HB4.out⟩
     case measure=>simp [intOf];omega
  ·obtain rfl:k= 8:=o_;have hE:beg s.toNat self (b+(n:Int)) 7=ml:= HE.out;have hE2:ml= r:=by rw[←hE];exact HRR.out
   clear HRR HE hE;subst hE2;go_wp2_with fail;go_ret;exact⟨a1,c1,rfl,own_row HOW.out,HBL.out,HOW.cap,fun _ b o s e=>own_block HOW.out b o s e,own_none HOW.out⟩
def RetOwnPrg(w:World)(xs:List Prg)(e:Ending)(w':World):Prop:=
 ∃a c,e= .returned (.slice a xs.length c)∧Near w.heap.size none a∧Can w' w.heap.size 116 (layPrg).size a xs.length c (xs.flatMap (layPrg).cells)∧
  (0<xs.length→ w'.ownsRow w.heap.size 116 (layPrg).size (.slice a xs.length c) xs.length (xs.flatMap (layPrg).cells))∧(∀b o s,a=some ⟨b,o,s⟩→b< w'.heap.size)∧Below w.heap.size w w'
theorem clonePrg(xs:List Prg)(a:Option Addr)(n c:Nat)(w:World)(hn:xs.length= n)(hby:n* (layPrg).bytes≤140737488355328)(hm:n≤ maxLen)(hc:a= none→c= 0)(hnc:n≤ c)(hr:LRow layPrg w a xs):
 Calls Tryz.prog 93 #[.slice a n c] w (RetOwnPrg w xs):=by
 subst hn;cases a with
 |none=>
  obtain rfl:=hc rfl;have h0:xs.length= 0:=o_;obtain rfl:xs= []:=List.eq_nil_of_length_eq_zero h0;go_enter Tryz.func93,Tryz.ntmps93;have hnil:=Lib.run_eql_slice_nil (P:=Tryz.prog) w 69 116 none 0 0 0 0 Tryz.underlying69;go_wp2;go_returns;exact⟨none,0,rfl,Near.nil _ _,Can.nil _ _ _ _,fun h=>absurd h (by simp),fun _ _ _ h=>(by cases h),Below.refl _ _⟩
 |some x=>
  have HR:=h_ hr;clear hr;go_enter Tryz.func93,Tryz.ntmps93;have hnil:=Lib.run_eql_slice_nil (P:=Tryz.prog) w 69 116 (some x) xs.length c 0 0 Tryz.underlying69;go_wp2_with(at_builtin;refine wpList_can ((layPrg).elem Tryz.underlying69) rfl _ _ rfl w.heap.size _ 0 _ _ rfl (Can.empty _ _ _ _ _) _ xs.length _ (xs.flatMap (layPrg).cells) rfl ((layPrg).length _) (Row.alloc HR.out _) ((layPrg).ones _) (by rw[Nat.zero_add];exact hby) (by simp) ?_;intro a' c' w3 hcan3 _ hb3 hown);go_returns;rw[Nat.zero_add,List.nil_append]at hcan3 hown;have hnear:Near w.heap.size none a':=by
   by_cases h0:0< xs.length
   ·exact Near.own (hown.1 h0) n_
   ·rw[(hown.2 o_).1];intro b o s hb;simp at hb;exact .inl o_
  have hblt:∀b o s,a'=some ⟨b,o,s⟩→b< w3.heap.size:=fun b o s hab=>by
   by_cases h0:0< xs.length
   ·exact((hown.1 h0).lt b (by rw[hab];rfl)).2
   ·have h1:=hb3.size;rw[(hown.2 o_).1]at hab;simp at hab h1;omega
  exact⟨a',c',rfl,hnear,hcan3,fun h=>hown.1 h,hblt,(b_.alloc n_ _).trans hb3⟩
end Go.Proofs.YtoeofkcpclfnhaaGreat
