import Derived.Test.YtoeofkcpclfnhaaGreatSr14
set_option linter.unusedVariables false
set_option linter.unusedSimpArgs false
namespace Go.Proofs.YtoeofkcpclfnhaaGreat
open Go.ChangeShapes Go.WideShapes Go.ChangeAt Go.RowKit
set_option maxRecDepth 100000
set_option maxHeartbeats 16000000
def askM(self dst term index last:Int):Ms:= ⟨{Raf.emptyM with kind:=1,src:=self,dst:=dst,term:=term,index:=index,last:=last},[],none,0⟩
def RetAk(w:World)(gl:Nat)(a:Option Addr)(n:Nat)(xs:List Value)(m:Ms)(en:Ending)(w':World):Prop:= en= .returned (.tuple #[])∧∃(a':Option Addr) (c':Nat),Bex w' gl [.slice a' (n+1) c']∧OwnO w' 59 14 a' (n+1) c' (xs++cellsMs m)∧Keep (fun k=>k= gl∨blkOf a=some k) w w'∧∀j,blkOf a'=some j→blkOf a=some j∨w.heap.size≤ j
theorem begin1_any(dst self term vt bt index last:Int)(gl gs gh gi gt:Nat)(a:Option Addr)(n c:Nat)(xs:List Value)(w:World)(hl:Bex w gl [.slice a n c])(hs:Bex w gs [.int .i64 self])(hh:Bex w gh (cellsHd ⟨term,vt,bt⟩))(hi:Bex w gi [.int .i64 index])(ht:Bex w gt [.int .i64 last])(ho:OwnO w 59 14 a n c xs)(hn:n≤ 1000)(hne:∀k,blkOf a=some k→k≠ gl):
 Calls Tryz.prog 80 #[.int .i64 dst,.pointer (some ⟨gl,0,none⟩),.pointer (some ⟨gs,0,none⟩),.pointer (some ⟨gh,0,none⟩),.pointer (some ⟨gi,0,none⟩),.pointer (some ⟨gt,0,none⟩)] w (RetAk w gl a n xs (askM self dst term index last)):=by
 have HL:=h_ hl;have HO:=h_ ho;have HNE:=h_ hne;have k1:=hl.box.cell (j:=0) rfl;have k2:=hs.box.cell (j:=0) rfl;have k3:=hh.box.cell (j:=0) rfl;have k4:=hi.box.cell (j:=0) rfl;have k5:=ht.box.cell (j:=0) rfl;have hgl:=hl.lt;clear hl hs hh hi ht ho hne;go_enter Tryz.func80,Tryz.ntmps80;go_wp2_with(first|(have hgq:=HX2;clear hgq;(with_reducible refine at_store 35 (.tmp 1) (.tmp 16) ?_);refine wpList_field_bex rfl (.tmp 1) (.tmp 16) rfl size1_nd.2.2.2.1 gl 0 _ (.slice a2 (n+1) c2) rfl rfl rfl rfl HX2.out (show 0<1 by decide) ?_;intro w3 hx3 hw3;have HX3:=h_ hx3;have HW3:=h_ hw3;clear hx3 hw3)|(at_builtin;refine wpList_ownO el_msg rfl (.tmp 7) (.tmp 15) rfl a n c xs rfl (HO.keep (fun k hk=>heap_alloc_old w _ (HO.lt k hk))) (some ⟨w.heap.size,0,none⟩) 1 1 (cellsMs (askM self dst term index last)) rfl rfl (Row.new _ _ _ _) (layMs.one _) o_ ?_;intro a2 c2 w2 ho2 hg2 hn2;have HO2:=h_ ho2;have HG2:=h_ hg2;have HN2:=h_ hn2;have HX2:=h_ ((HL.next (b_.alloc n_ _)).block (hg2.block gl (by simp;omega) (fun e5=>HNE.out gl e5.symm rfl)));clear ho2 hg2 hn2 k1));go_end0;have hs2:w.heap.size< (w.alloc (.cells (cellsMs (askM self dst term index last)).toArray 59)).heap.size:=by simp
 have hk1:Keep (fun k=>k= gl∨blkOf a=some k) w (w.alloc (.cells (cellsMs (askM self dst term index last)).toArray 59)):=Keep.of (b_.alloc n_ _);have hnew:∀j,blkOf a2=some j→blkOf a=some j∨w.heap.size≤ j:=fun j hj=>(HN2 j hj).imp id (fun h=>Nat.le_trans (Nat.le_of_lt hs2) h)
 refine⟨rfl,a2,c2,HX3.out,HO2.keep (fun k hk=>HW3.keep k (fun e5=> ?_)),(hk1.trans (.grown HG2.out (fun _ h=> .inr h))).trans (.wrote HW3.out (.inl rfl)),hnew⟩;rcases hnew k hk with h5|h5
 ·exact HNE.out k h5 e5
 ·omega
theorem enter_begin1(args:Array Value)(w:World):(callFunc 80 args).run Tryz.prog w= .ok (.enter 80 args) w:=k_
theorem begin_no(es:List RwE)(a:Option Addr)(n c:Nat)(s:UInt8)(k:Nat)(t0 v0 b0:Int)(w:World)(hn:es.length= n)(hl:n≤ 4096)(hok:okR 0 0 (ents es)=true)(hr:Row w a (es.flatMap cellsRw))(hk1:1≤ k)(hk7:k≤ 7)(ht0:0≤ t0)(ht1:t0≤ 1099511627776)(hin:inSet s.toNat k=false):
 Calls Tryz.prog 57 #[.agg #[.int .i64 t0,.int .i64 v0,.int .i64 b0],.agg #[.int .i64 0,.int .i64 0,.slice a n c],B s,.int .i64 (k:Int)] w (fun e w'=>e= .returned (.tuple #[.agg #[.int .i64 0,.int .i64 0,.int .i64 0],.slice none 0 0,.int .i64 2])∧Below w.heap.size w w'):=by
 obtain⟨hb0,hh0,hr0,hs0,hz0,hsz0⟩:=bex4 w (cellsHd ⟨t0,v0,b0⟩) (cellsRs ⟨0,0,a,n,c⟩) [.int .i64 (k:Int)] (cellsHd ⟨0,0,0⟩) 29 33 3 29;have hlen:(ents es).length=n:= by rw[ents_len,hn]
 have HCK:=h_ (fun w' (hb:Below w.heap.size w w')=>check_any es 0 0 a n c w' hn o_ (hr.below hb));have HLV:=h_ (fun w' (hb:Below w.heap.size w w')=>lastV_any es 0 0 a n c w' hn o_ (hr.below hb));have HAS:=h_ (fun w'=>vhas_any s k w' hk1 hk7);rw[chk_ok hok]at HCK;rw[lastF_ok hok,hlen]at HLV;rw[hin]at HAS;have HH0:=h_ hh0;have HR0:=h_ hr0;have HS0:=h_ hs0;have HZ0:=h_ hz0;have HB0:=h_ hb0;have HSZ:=h_ hsz0;clear hn hl hok hr hin hlen hb0 hh0 hr0 hs0 hz0 hsz0;go_enter Tryz.func57,Tryz.ntmps57;go_wp2_with(first|(have hgq:=HB1;clear hgq;go_at_call 79;((with_reducible refine(HAS.out _).mono ?_);rintro en w2 ⟨rfl,rfl⟩))|(go_at_call 18;((with_reducible refine(HCK.out _ HB0.out).mono ?_);rintro en w1 ⟨rfl,hb⟩;have HB1:=h_ (HB0.trans (hb.mono HB0.size));have HS1:=h_ (HS0.next hb);have HZ1:=h_ (HZ0.next hb);have k2:=HS1.box.cell (j:=0) rfl;clear hb))|((with_reducible refine at_store 29 (.tmp 8) (.tmp 26) ?_);refine wpList_store_bex layHd rfl (.tmp 8) (.tmp 26) rfl (w.heap.size+1+ 1+1) ⟨0,0,0⟩ _ rfl rfl HZ1.out rfl ?_;intro w3 hx3 hw3;have HB3:=h_ (HB1.trans (hw3.below _ o_));have j0:=hx3.box.cell (j:=0) rfl;have j1:=hx3.box.cell (j:=1) rfl;have j2:=hx3.box.cell (j:=2) rfl;clear hx3 hw3));refine bodyPost_ret (v:= .tuple #[.agg #[.int .i64 0,.int .i64 0,.int .i64 0],.slice none 0 0,.int .i64 2]) (by simp[results,Tryz.results57,go_sem,j0,j1,j2]) rfl ?_;exact⟨rfl,HB3.out⟩
def othersF(set:Nat)(self:Int)(f:Int→ WMsg):Nat→ List WMsg
 |0=> []
 |j+ 1=>othersF set self f j++(if(((j+1: Nat):Int) !=self)&&inSet set (j+1)then[f ((j+1: Nat):Int)]else[])
theorem othersF_eq(set:Nat)(self:Int)(f:Int→ WMsg):∀j,(((List.range j).filter (fun j=>inSet set (j+1)&&((((j+1: Nat)):Int) !=self))).map (fun j=>((j+1: Nat):Int))).map f=othersF set self f j
 |0=> rfl
 |j+ 1=>by
  rw[List.range_succ,List.filter_append,List.map_append,List.map_append,othersF_eq set self f j];show _=othersF set self f j++_
  congr 1
  rw[List.filter_cons,List.filter_nil,Bool.and_comm]
  split<;>rfl
theorem others_map(n:Raf.RN)(f:Int→ WMsg):(Raf.others n).map f=othersF n.set n.self f 7:=othersF_eq _ _ _ 7
def RetBg(w:World)(t v b:Int)(ms:List WMsg)(e:Ending)(w':World):Prop:= ∃(a:Option Addr) (c:Nat) (sl:List Ms),e= .returned (.tuple #[.agg #[.int .i64 t,.int .i64 v,.int .i64 b],.slice a sl.length c,.int .i64 0])∧sl.map Ms.m=ms∧ Row w' a (sl.flatMap cellsMs)∧Below w.heap.size w w'∧(∀j,blkOf a=some j→w.heap.size≤ j)∧(∀m∈ sl,m.es=[]∧m.ea= none∧m.ec= 0∧m.m.entries= [])∧sl.length≤ 7
theorem tq28 {P:Prop}(h:P:=by
 go_wp2_with(go_at_call 79;((with_reducible refine(HSq.out _).mono ?_);rintro en w7 ⟨rfl,rfl⟩));go_roundw
 case rel=>exact ⟨q+1,sl,a1,c1,by omega,by omega,by go_num,HLr.out,HOr.out,HAr.out,HOn.out,by omega,(by show _=_;rw[Nat.add_sub_cancel,HE2.out,HML.out];simp),HME.out⟩
 case measure=>simp [intOf];omega):P:=h
theorem begin_yes(es:List RwE)(a:Option Addr)(n c:Nat)(s:UInt8)(k:Nat)(t0 v0 b0:Int)(w:World)(hn:es.length= n)(hl:n≤ 4096)(hok:okR 0 0 (ents es)=true)(hr:Row w a (es.flatMap cellsRw))(hk1:1≤ k)(hk7:k≤ 7)(ht0:0≤ t0)(ht1:t0≤ 1099511627776)(hin:inSet s.toNat k=true):
 Calls Tryz.prog 57 #[.agg #[.int .i64 t0,.int .i64 v0,.int .i64 b0],.agg #[.int .i64 0,.int .i64 0,.slice a n c],B s,.int .i64 (k:Int)] w (RetBg w (t0+1) (k:Int) b0 (othersF s.toNat (k:Int) (fun q=>{Raf.emptyM with kind:=1,src:=(k:Int),dst:=q,term:=t0+ 1,index:=((ents es).length:Int),last:=lastT 0 (ents es)}) 7)):=by
 obtain⟨hb0,hh0,hr0,hs0,hz0,hsz0⟩:=bex4 w (cellsHd ⟨t0,v0,b0⟩) (cellsRs ⟨0,0,a,n,c⟩) [.int .i64 (k:Int)] (cellsHd ⟨0,0,0⟩) 29 33 3 29;have hlen:(ents es).length=n:= by rw[ents_len,hn]
 have HCK:=h_ (fun w' (hb:Below w.heap.size w w')=>check_any es 0 0 a n c w' hn o_ (hr.below hb));have HLV:=h_ (fun w' (hb:Below w.heap.size w w')=>lastV_any es 0 0 a n c w' hn o_ (hr.below hb));have HAS:=h_ (fun w'=>vhas_any s k w' hk1 hk7);rw[chk_ok hok]at HCK;rw[lastF_ok hok,hlen]at HLV;rw[hin]at HAS;have HH0:=h_ hh0;have HR0:=h_ hr0;have HS0:=h_ hs0;have HZ0:=h_ hz0;have HB0:=h_ hb0;have HSZ:=h_ hsz0;have HIN:=h_ (fun j h1 h2 w'=>vhas_any s j w' h1 h2);have HENT:=h_ enter_begin1;have hi1:(1:Int)≤(k:Int):=o_;generalize lastT 0 (ents es)=lt at HLV ⊢;rw[hlen];obtain⟨ms,hms⟩:∃ms,othersF s.toNat (k:Int) (fun q=>{Raf.emptyM with kind:=1,src:=(k:Int),dst:=q,term:=t0+ 1,index:=(n:Int),last:=lt}) 7=ms:= ⟨_,rfl⟩;rw[hms];have HMS:=h_ hms;have HOF:=h_ (fun j=>(show othersF s.toNat (k:Int) (fun q=>{Raf.emptyM with kind:=1,src:=(k:Int),dst:=q,term:=t0+ 1,index:=(n:Int),last:=lt}) (j+1)=othersF s.toNat (k:Int) (fun q=>{Raf.emptyM with kind:=1,src:=(k:Int),dst:=q,term:=t0+ 1,index:=(n:Int),last:=lt}) j++(if(((j+1: Nat):Int) !=(k:Int))&&inSet s.toNat (j+1)then[{Raf.emptyM with kind:=1,src:=(k:Int),dst:=((j+1: Nat):Int),term:=t0+ 1,index:=(n:Int),last:=lt}]else[])from rfl));have HOF0:Hid (othersF s.toNat (k:Int) (fun q=>{Raf.emptyM with kind:=1,src:=(k:Int),dst:=q,term:=t0+ 1,index:=(n:Int),last:=lt}) 0=[]):=rfl;generalize othersF s.toNat (k:Int) (fun q=>{Raf.emptyM with kind:=1,src:=(k:Int),dst:=q,term:=t0+ 1,index:=(n:Int),last:=lt})=OF at HMS HOF HOF0;clear hn hok hr hin hlen hb0 hh0 hr0 hs0 hz0 hsz0 hms;go_enter Tryz.func57,Tryz.ntmps57;go_wp2_with(first|(have hgq:=HH4;clear hgq;go_at_call 74;((with_reducible refine(HLV.out _ HB4.out).mono ?_);rintro en w5 ⟨rfl,hb⟩;have HB5:=h_ (HB4.trans (hb.mono HB4.size));have HH5:=h_ (HH4.next hb);have HS5:=h_ (HS4.next hb);have HZ5:=h_ (HZ4.next hb);clear hb))|(have hgq:=HB1;clear hgq;go_at_call 79;((with_reducible refine(HAS.out _).mono ?_);rintro en w2 ⟨rfl,rfl⟩))|(go_at_call 18;((with_reducible refine(HCK.out _ HB0.out).mono ?_);rintro en w1 ⟨rfl,hb⟩;have HB1:=h_ (HB0.trans (hb.mono HB0.size));have HH1:=h_ (HH0.next hb);have HR1:=h_ (HR0.next hb);have HS1:=h_ (HS0.next hb);have HZ1:=h_ (HZ0.next hb);have k2:=HS1.box.cell (j:=0) rfl;have k0:=HH1.box.cell (j:=0) rfl;clear hb))|((with_reducible refine at_store 3 (.tmp 30) (.tmp 29) ?_);refine wpList_field_bex rfl (.tmp 30) (.tmp 29) rfl size1_nd.1 w.heap.size 0 _ (.int .i64 (t0+1)) rfl rfl rfl rfl HH1.out (show 0<3 by decide) ?_;intro w3 hx3 hw3;have HB3:=h_ (HB1.trans (hw3.below _ n_));have HH3:Hid (Bex w3 w.heap.size (cellsHd ⟨t0+1,v0,b0⟩)):=hx3;have HR3:=h_ (HR1.wrote hw3 o_);have HS3:=h_ (HS1.wrote hw3 o_);have HZ3:=h_ (HZ1.wrote hw3 o_);clear k2 k0;have k2:=HS3.box.cell (j:=0) rfl;clear hx3 hw3)|((with_reducible refine at_store 3 (.tmp 32) (.tmp 31) ?_);refine wpList_field_bex rfl (.tmp 32) (.tmp 31) rfl size1_nd.1 w.heap.size 1 _ (.int .i64 (k:Int)) rfl rfl rfl rfl HH3.out (show 1<3 by decide) ?_;intro w4 hx4 hw4;have HB4:=h_ (HB3.trans (hw4.below _ n_));have HH4:Hid (Bex w4 w.heap.size (cellsHd ⟨t0+1,(k:Int),b0⟩)):=hx4;have HR4:=h_ (HR3.wrote hw4 o_);have HS4:=h_ (HS3.wrote hw4 o_);have HZ4:=h_ (HZ3.wrote hw4 o_);clear k2;have r0:=HR4.box.cell (j:=0) rfl;have r1:=HR4.box.cell (j:=1) rfl;have r2:=HR4.box.cell (j:=2) rfl;clear hx4 hw4));obtain⟨hb6,hi6,ht6,hl6,hsz6⟩:=bex3 w5 [.int .i64 (n:Int)] [.int .i64 lt] [.slice none 0 0] 3 3 35;have HB6a:=h_ hb6;have HI6a:=h_ hi6;have HT6a:=h_ ht6;have HL6a:=h_ hl6;have HZ6a:=h_ hsz6;clear hb6 hi6 ht6 hl6 hsz6 r0 r1 r2;obtain⟨w6,hw6⟩:∃q,q=(((w5.alloc (.cells #[.int .i64 (n:Int)] 3)).alloc (.cells #[.int .i64 lt] 3)).alloc (.cells #[.slice none 0 0] 35)):=⟨_,rfl⟩;have HB6x:Hid (Below w5.heap.size w5 w6):=by rw[hw6];exact HB6a.out
 have HI6:Hid (Bex w6 w5.heap.size [.int .i64 (n:Int)]):=by rw[hw6];exact HI6a.out
 have HT6:Hid (Bex w6 (w5.heap.size+1) [.int .i64 lt]):=by rw[hw6];exact HT6a.out
 have HL6:Hid (Bex w6 (w5.heap.size+1+ 1) [.slice none 0 0]):=by rw[hw6];exact HL6a.out
 have hz6:w6.heap.size= w5.heap.size+3:= by rw[hw6];exact HZ6a.out
 have HZ6:=h_ hz6;clear HB6a HI6a HT6a HL6a HZ6a hz6;rw[←hw6];clear hw6;have HB6:=h_ (HB5.trans (HB6x.mono HB5.size));have HH6:=h_ (HH5.next HB6x.out);have HS6:=h_ (HS5.next HB6x.out);have HR6:=h_ (HZ5.next HB6x.out);have hw5s:w.heap.size+ 4≤w5.heap.size:= by have:=HZ5.lt;omega
 have HW5:=h_ hw5s;clear hw5s;go_loopw [15] (fun nv wr=>∃(q:Nat) (sl:List Ms) (a1:Option Addr) (c1:Nat),1≤q∧ q≤8∧ nv= .int .i64 q∧Hid (Bex wr (w5.heap.size+1+ 1) [.slice a1 sl.length c1])∧Hid (OwnO wr 59 14 a1 sl.length c1 (sl.flatMap cellsMs))∧Hid (∀j,blkOf a1=some j→w6.heap.size≤ j)∧Hid (Only (w5.heap.size+1+ 1) w6 wr)∧sl.length≤ q-1∧ Hid (sl.map Ms.m=OF (q-1))∧Hid (∀m∈ sl,m.es=[]∧m.ea= none∧m.ec= 0∧m.m.entries= [])) (fun nv _=>8- (intOf nv).toNat)
 case atStart=>exact ⟨1,[],none,0,by omega,by omega,rfl,HL6.out,OwnO.nil _ _ _,(fun j h5=>by cases h5),Only.refl _ _,Nat.le_refl _,(by show _=_;rw[HOF0.out];rfl),(fun m hm=>by cases hm)⟩
 case round=>
  obtain⟨q,sl,a1,c1,hq1,hq8,rfl,HLr,HOr,HAr,HOn,hsl,HML,HME⟩:=hrel;have hW:=HW5.out;have hz:=HZ6.out;have hrs:=HOn.size;have HHr:=h_ (HH6.only HOn.out o_);have HSr:=h_ (HS6.only HOn.out o_);have HIr:=h_ (HI6.only HOn.out o_);have HTr:=h_ (HT6.only HOn.out o_);have HRr:=h_ (HR6.only HOn.out o_);have k2:=HSr.box.cell (j:=0) rfl;by_cases h7:q≤ 7
  ·have HSq:=h_ (fun w'=>HIN.out q hq1 h7 w');have ek:q- 1+1= q:=o_;have HE2:=h_ (HOF (q-1));rw[ek]at HE2;have hd:decide ((q:Int)≤7)=true:= decide_eq_true o_;clear HIN HOF ek;rcases he:((q:Int) !=(k:Int))with _|_
   ·rw[he,Bool.false_and]at HE2;exact tq28
   ·rw[he,Bool.true_and]at HE2;rcases hin:inSet s.toNat q with _|_
    all_goals rw[hin]at HSq HE2
    ·exact tq28
    ·have hent:=HENT.out;have HAK:=h_ (begin1_any (q:Int) (k:Int) (t0+1) (k:Int) b0 (n:Int) lt (w5.heap.size+1+ 1) (w.heap.size+1+ 1) w.heap.size w5.heap.size (w5.heap.size+1) a1 sl.length c1 (sl.flatMap cellsMs) wr HLr.out HSr.out HHr.out HIr.out HTr.out HOr.out o_ (fun j h5 e5=>by have:=HAr.out j h5;omega));go_wp2_with(first|(go_at_call 79;((with_reducible refine(HSq.out _).mono ?_);rintro en w7 ⟨rfl,rfl⟩))|((with_reducible refine HAK.out.mono ?_);rintro en w7 ⟨rfl,a2,c2,hl7,ho7,hk7x,hn7⟩;have HL7:=h_ hl7;have HO7:=h_ ho7;have HK7:=h_ hk7x;have HN7:=h_ hn7;clear hl7 ho7 hk7x hn7 hent));go_roundw
     case rel=>
      have hon:Only (w5.heap.size+1+ 1) w6 w7:=⟨HK7.os.trans HOn.os,HK7.tape.trans HOn.tape,HK7.output.trans HOn.output,Nat.le_trans HOn.size HK7.size,fun j hj hne=>(HK7.block j (Nat.lt_of_lt_of_le hj hrs) (fun h5=>by
       rcases h5 with h5|h5
       ·exact hne h5
       ·have:=HAr.out j h5;omega)).trans (HOn.block j hj hne)⟩
      have hls:(sl++[askM (k:Int) (q:Int) (t0+1) (n:Int) lt]).length=sl.length+ 1:=by simp
      exact⟨q+1,sl++[askM (k:Int) (q:Int) (t0+1) (n:Int) lt],a2,c2,by omega,by omega,by go_num,(by show Bex _ _ _;rw[hls];exact HL7.out),(by show OwnO _ _ _ _ _ _ _;rw[hls,List.flatMap_append];simpa using HO7.out),(fun j hj=>by
       rcases HN7.out j hj with h5|h5
       ·exact HAr.out j h5
       ·omega),hon,by rw[hls];omega,(by show _=_;rw[Nat.add_sub_cancel,HE2.out,List.map_append,HML.out];rfl),(fun m hm=>by
       rcases List.mem_append.1 hm with hm|hm
       ·exact HME.out m hm
       ·rw[List.mem_singleton]at hm;subst hm;exact⟨rfl,rfl,rfl,rfl⟩)⟩
     case measure=>simp [intOf];omega
  ·obtain rfl:q= 8:=o_;have hd:decide ((8:Int)≤7)=false:= d_;go_wp2_with fail;refine wrq (fun l w'=>(w'.cell? ⟨w.heap.size,0,none⟩=some (.int .i64 (t0+1))∧w'.cell? ⟨w.heap.size,1,none⟩=some (.int .i64 (k:Int))∧w'.cell? ⟨w.heap.size,2,none⟩=some (.int .i64 b0)∧w'.cell? ⟨w5.heap.size+1+ 1,0,none⟩=some (.slice a1 sl.length c1))) ?_;obtain⟨w8,hwd⟩:∃y,y=World.drew wr:=⟨_,rfl⟩;rw[←hwd];have hb:Below wr.heap.size wr w8:=by rw[hwd];exact b_.drew
   clear hwd;have HD8:=h_ hb;have HH8:=h_ (HHr.next hb);have HL8:=h_ (HLr.next hb);have HR8:=h_ (HRr.next hb);clear hb k2;refine toS ⟨HH8.box.cell (j:=0) rfl,HH8.box.cell (j:=1) rfl,HH8.box.cell (j:=2) rfl,HL8.box.cell (j:=0) rfl⟩ ?_;refine tkq 0 ?_;refine tkq 1 ?_;refine soq 2 (fun K hK=> ?_);rw[if_pos (by rfl)];refine op_store_bex layHd (.tmp 8) (.tmp 54) rfl (w.heap.size+1+ 1+1) ⟨t0+1,(k:Int),b0⟩ _ rfl rfl HR8.out rfl ?_;intro w9 hx9 hw9;have HR9:=h_ hx9;have HW9:=h_ hw9;have HH9:=h_ (HH8.wrote hw9 o_);have HL9:=h_ (HL8.wrote hw9 o_);clear hx9 hw9;refine hK.out _ _ ⟨HH9.box.cell (j:=0) rfl,HH9.box.cell (j:=1) rfl,HH9.box.cell (j:=2) rfl,HL9.box.cell (j:=0) rfl⟩ ?_;clear hK K;refine tkq 3 ?_;refine tkq 4 ?_;refine sdq ?_;go_wp2_with fail;have j0:=HR9.box.cell (j:=0) rfl;have j1:=HR9.box.cell (j:=1) rfl;have j2:=HR9.box.cell (j:=2) rfl;refine bodyPost_ret (v:= .tuple #[.agg #[.int .i64 (t0+1),.int .i64 (k:Int),.int .i64 b0],.slice a1 sl.length c1,.int .i64 0]) (by simp[results,Tryz.results57,go_sem,j0,j1,j2]) rfl ?_;have hb8:Below w.heap.size w w8:=(HB6.trans (HOn.below o_ HB6.size)).trans (HD8.mono o_);have ho9:OwnO w9 59 14 a1 sl.length c1 (sl.flatMap cellsMs):=(HOr.keep (fun j hj=>HD8.block j (HOr.lt j hj))).keep (fun j hj=>HW9.keep j (fun e5=>by have:=HAr.out j hj;omega));exact⟨a1,c1,sl,rfl,by rw[HML.out,HMS.out],ho9.row,hb8.trans (HW9.below _ o_),fun j hj=>by have:=HAr.out j hj;omega,HME.out,by omega⟩
theorem elect_eq(n:Raf.RN)(now:Int):Raf.electF n now=if inSet (Raf.latS n.base n.es).1.toNat n.self.toNat then
 (if Raf.majB (Raf.latS n.base n.es).1.toNat (Raf.bitOf n.self).toNat then((Raf.leadF {Raf.again n now with hT:=n.hT+ 1,hV:=n.self,role:=1,known:=0,yes:=Raf.bitOf n.self} now).1,othersF (Raf.latS n.base n.es).1.toNat n.self (fun q=>{Raf.emptyM with kind:=1,src:=n.self,dst:=q,term:=n.hT+ 1,index:=(n.es.length:Int),last:=lastT 0 n.es}) 7++(Raf.leadF {Raf.again n now with hT:=n.hT+ 1,hV:=n.self,role:=1,known:=0,yes:=Raf.bitOf n.self} now).2)
  else({Raf.again n now with hT:=n.hT+ 1,hV:=n.self,role:=1,known:=0,yes:=Raf.bitOf n.self},othersF (Raf.latS n.base n.es).1.toNat n.self (fun q=>{Raf.emptyM with kind:=1,src:=n.self,dst:=q,term:=n.hT+ 1,index:=(n.es.length:Int),last:=lastT 0 n.es}) 7))
 else(Raf.again n now,[]):=by
 unfold Raf.electF;simp only[others_map];unfold Raf.again Raf.RN.set;by_cases h:n.draws.length= 0
 ·simp only[if_pos h]
 ·simp only[if_neg h]
theorem Gd.again{n:Raf.RN}{D:Nat}(h:Gd n D)(now:Int)(hD:D+ 1≤100000):Gd (Raf.again n now) (D+1):=by
 unfold Raf.again
 split
 ·exact⟨h.ok,h.lt,h.len,h.self1,h.self7,h.el1,h.el2,h.pu1,h.pu2,h.dl,h.t0,h.t1,h.c0,h.c1,h.d0,by have:=h.d1;show n.drawn≤_;omega,by have:=h.pl;show n.p.length≤_;omega,h.pb,hD⟩
 ·exact⟨h.ok,h.lt,h.len,h.self1,h.self7,h.el1,h.el2,h.pu1,h.pu2,h.dl,h.t0,h.t1,h.c0,h.c1,by have:=h.d0;show 0≤n.drawn+ 1;omega,by have:=h.d1;show n.drawn+1≤ _;omega,by have:=h.pl;show n.p.length≤_;omega,h.pb,hD⟩
theorem again_same(n:Raf.RN)(now:Int):(Raf.again n now).self=n.self∧ (Raf.again n now).hT=n.hT∧ (Raf.again n now).hV=n.hV∧ (Raf.again n now).hB=n.hB∧ (Raf.again n now).es=n.es∧ (Raf.again n now).base=n.base∧ (Raf.again n now).com=n.com∧ (Raf.again n now).p=n.p∧ (Raf.again n now).role=n.role∧ (Raf.again n now).known=n.known∧ (Raf.again n now).draws=n.draws:= by
 unfold Raf.again
 split<;>exact ⟨rfl,rfl,rfl,rfl,rfl,rfl,rfl,rfl,rfl,rfl,rfl⟩
theorem Gd.cand{n:Raf.RN}{D:Nat}(h:Gd n D)(ht:n.hT+ 1≤1099511627776){v:Int}{y:UInt8}:Gd {n with hT:=n.hT+ 1,hV:=v,role:=1,known:=0,yes:=y} D:=⟨h.ok,by have:=h.lt;show lastT 0 n.es≤n.hT+ 1;omega,h.len,h.self1,h.self7,h.el1,h.el2,h.pu1,h.pu2,h.dl,by have:=h.t0;show 0≤n.hT+ 1;omega,ht,h.c0,h.c1,h.d0,h.d1,h.pl,h.pb,h.D1⟩
theorem bit_nat{k:Int}(h1:1≤ k)(h2:k≤ 7):(Raf.bitOf k).toNat=2^ (k-1).toNat:=by
 unfold Raf.bitOf;rw[UInt8.toNat_ofNat'];refine Nat.mod_eq_of_lt ?_;have:(k-1).toNat≤6:= o_;exact Nat.lt_of_le_of_lt (Nat.pow_le_pow_right d_ this) d_
theorem sents_in{S T:Nat→ Prop}{w w3 w4:World}{g:Nat}{x:Nd}{e:Ef}{ls:List Ms}{sa:Option Addr}{sc:Nat}(h:NdAt S T w g x e)(he:EfAt S T w g e)(hm:∀m∈ ls,MsAt (Un S T) w m)(ho:OwnO w3 59 14 sa (e.sl.length+ls.length) sc (e.sl.flatMap cellsMs++ls.flatMap cellsMs))(hg:w.grownBy w3 (blkOf e.sa))(hn:∀j,blkOf sa=some j→blkOf e.sa=some j∨w.heap.size≤ j)(hw:Wrote g w3 w4)(hb:Bex w4 g ((cellsN x e).set 4 (.slice sa (e.sl.length+ls.length) sc))):
 RetIn S T w g x e (ls.map Ms.m) (.returned (.tuple #[])) w4:=by
 replace hb:Bex w4 g (cellsN x {e with sl:=e.sl++ ls,sa:=sa,sc:=sc}):=by
  rw[show cellsN x {e with sl:=e.sl++ ls,sa:=sa,sc:=sc}=(cellsN x e).set 4 (.slice sa (e.sl++ls).length sc)from rfl,List.length_append];exact hb
 have hgl:=h.lt;have h3b:OwnO w3 59 14 sa (e.sl++ls).length sc ((e.sl++ls).flatMap cellsMs):=by
  rw[List.length_append,List.flatMap_append];exact ho
 let T':Nat→ Prop:=fun k=>T k∨blkOf sa=some k
 have hlt:∀k,blkOf sa=some k→k< w3.heap.size:=h3b.lt;have hne:∀k,blkOf sa=some k→k≠ g:=fun k hk e2=>by
  rcases hn k hk with h5|h5
  ·exact(he.in_ k h5).2 e2
  ·omega
 have hnew:∀k,k<w.heap.size→ T' k→T k:=fun k hk h5=>by
  rcases h5 with h5|h5
  ·exact h5
  ·rcases hn k h5 with h6|h6
   ·exact(he.in_ k h6).1
   ·omega
 have hs23:Stp T w T' w3:=⟨.grown hg (fun k hk=>(he.in_ k hk).1),fun _ h5=> .inl h5,hnew,fun k h5=>h5.imp id (hlt k)⟩;have hs34:Stp T' w3 T' w4:= .wrote hw (.inl h.tg);have hs:Stp T w T' w4:=hs23.trans hs34;have hgk:w3.heap[g]? =w.heap[g]?:=hg.block g hgl (fun e2=>(he.in_ g e2.symm).2 rfl);have hN3:NdAt S T' w3 g x e:=h.stp hs23 hgk
 refine⟨rfl,T',e.sl++ls,sa,sc,hs,hN3.num hw hb rfl rfl rfl,⟨?_,fun k hk=>⟨.inr hk,hne k hk⟩,fun y hy=> ?_,he.add.stp hs,he.adl,fun k hk h5=>by
  rcases hn k hk with h6|h6
  ·exact he.ns k h6 h5
  ·have:=h.os k h5;omega⟩,?_⟩
 ·exact h3b.keep (fun k hk=>hw.keep k (hne k hk))
 ·rcases List.mem_append.1 hy with hy|hy
  ·exact(he.msgs y hy).step hs.keep (fun _ h5=> .inr h5) (fun k hk h5=>h5.imp id (hs.new k hk))
  ·exact(hm y hy).step hs.keep (fun _ h5=> .inr h5) (fun k hk h5=>h5.imp id (hs.new k hk))
 ·rw[List.map_append]
theorem tq29 {P:Prop}(h:P:=by
 refine hK.out _ _ ⟨(HN.next HBc.out).bex.box.cell (j:=6) rfl,(HN.next HBc.out).bex.box.cell (j:=11) rfl,(HN.next HBc.out).bex.box.cell (j:=12) rfl,(HN.next HBc.out).bex.box.cell (j:=13) rfl,(HN.next HBc.out).bex.box.cell (j:=14) rfl,(HN.next HBc.out).bex.box.cell (j:=15) rfl,(HN.next HBc.out).bex.box.cell (j:=16) rfl⟩ ?_;clear hK K;refine soq 15 (fun K hK=> ?_);go_simp;have hU:Old (fun j=>Un S T j∨j= gr) w3:=fun j hj=>by
  rcases hj with(h5|h5)|h5
  ·have:=HN.os j h5;have:=HBc.size;omega
  ·have:=HN.ot j h5;have:=HBc.size;omega
  ·have:=HGc.lt;omega
 go_at_call 57
 with_reducible refine(HBG.out _ HBc.out).mono ?_
 rintro en w4 ⟨rfl,hb5⟩;replace HGc:=h_ (HGc.next hb5);replace HBc:=h_ (HBc.trans (hb5.mono HBc.size));clear hb5 hU;refine hK.out _ _ ⟨(HN.next HBc.out).bex.box.cell (j:=6) rfl,(HN.next HBc.out).bex.box.cell (j:=11) rfl,(HN.next HBc.out).bex.box.cell (j:=12) rfl,(HN.next HBc.out).bex.box.cell (j:=13) rfl,(HN.next HBc.out).bex.box.cell (j:=14) rfl,(HN.next HBc.out).bex.box.cell (j:=15) rfl,(HN.next HBc.out).bex.box.cell (j:=16) rfl⟩ ?_;clear hK K;refine tkq 16 ?_;refine tkq 17 ?_;refine tkq 18 ?_;refine tkq 19 ?_;refine soq 21 (fun K hK=> ?_);rw[if_pos (by rfl)];refine op_store_bex layHd (.tmp 4) (.tmp 24) rfl gr ⟨0,0,0⟩ _ rfl rfl HGc.out rfl ?_;intro w5 hx hw;replace HGc:=h_ hx;replace HBc:=h_ (HBc.trans (hw.below _ HGW.out));clear hx hw;refine hK.out _ _ ⟨(HN.next HBc.out).bex.box.cell (j:=6) rfl,(HN.next HBc.out).bex.box.cell (j:=11) rfl,(HN.next HBc.out).bex.box.cell (j:=12) rfl,(HN.next HBc.out).bex.box.cell (j:=13) rfl,(HN.next HBc.out).bex.box.cell (j:=14) rfl,(HN.next HBc.out).bex.box.cell (j:=15) rfl,(HN.next HBc.out).bex.box.cell (j:=16) rfl⟩ ?_;clear hK K;refine tkq 22 ?_;refine tkq 23 ?_;refine sdq ?_;revert HGc;revert HBc;revert HGW;revert gr;revert w5
 exact CUT.out):P:=h
theorem elect_no{S T:Nat→ Prop}{w:World}{g:Nat}{x:Nd}{e:Ef}{D:Nat}(h:NdAt S T w g x e)(he:EfAt S T w g e)(hg:Gd x.n D)(h1:e.al= [])(h2:e.aa= none)(h3:e.ac= 0)(hl:e.sl.length≤ 800000)(now:Int)(hn0:0≤ now)(hn1:now≤ 1099511627776)(hD:7≤ D)(hD1:D+ 1≤100000)(h39:x.n.es.length≤ 3999)(ht:x.n.hT+ 1≤1099511627776)(hin:inSet (Raf.latS x.n.base x.n.es).1.toNat x.n.self.toNat=false):
 Calls Tryz.prog 29 #[.pointer (some ⟨g,0,none⟩),.int .i64 now] w (RetSt S T w g e (Raf.electF x.n now).1 (Raf.electF x.n now).2):=by
 obtain⟨k,hk⟩:∃k: Nat,x.n.self=(k:Int):=⟨x.n.self.toNat,by have:=hg.self1;omega⟩;have hk1:1≤ k:=by have:=hg.self1;omega
 have hk7:k≤ 7:=by have:=hg.self7;omega
 have HQ:=h_ (elect_eq x.n now);rw[hin]at HQ;have hin2:inSet (Raf.latS x.n.base x.n.es).1.toNat k=false:= by rw[←hin,hk];rfl
 have HN:=h_ h;have HE:=h_ he;have HG:=h_ hg;have HA:=h_ (And.intro h1 (And.intro h2 h3));have HL:=h_ hl;have HD:=h_ hD;have HD1:=h_ hD1;have HT1:=h_ ht;have H39:=h_ h39;have HS:=h_ (fun w' (hb:Below w.heap.size w w')=>set_nd (h.next hb) hg.ok);have HBG:=h_ (fun w' (hb:Below w.heap.size w w')=>begin_no x.es x.ra x.es.length x.rc (Raf.latS x.n.base x.n.es).1 k x.n.hT x.n.hV x.n.hB w' rfl (by have h5:=ents_len x.es;rw[h.eq]at h5;have:=hg.len;omega) (by rw[h.eq];exact hg.ok) ((h.ent.row.1).below hb) hk1 hk7 hg.t0 hg.t1 hin2);(try rw[h.eq]at HBG);(try rw[←hk]at HBG);have HK:=h_ hk;have HAG:=h_ (fun w' (hb:Below w.heap.size w w')=>again_nd (h.next hb) hg now hn0 hn1);generalize Raf.electF x.n now=r at HQ ⊢;clear h he hg h1 h2 h3 hl hD hD1 h39 ht hin hin2 hk;go_enter Tryz.func29,Tryz.ntmps29;go_wp2_with fail;apply cut_here
 ·intro CUT;refine wrq (fun l w'=>(w'.cell? ⟨g,6,none⟩=some (.int .i64 x.n.self)∧w'.cell? ⟨g,11,none⟩=some (.int .i64 x.n.hT)∧w'.cell? ⟨g,12,none⟩=some (.int .i64 x.n.hV)∧w'.cell? ⟨g,13,none⟩=some (.int .i64 x.n.hB)∧w'.cell? ⟨g,14,none⟩=some (.int .i64 0)∧w'.cell? ⟨g,15,none⟩=some (.int .i64 0)∧w'.cell? ⟨g,16,none⟩=some (.slice x.ra x.es.length x.rc))) ?_;obtain⟨w1,hwd⟩:∃y,y=World.drew w:=⟨_,rfl⟩;rw[←hwd];have hb:Below w.heap.size w w1:=by rw[hwd];exact b_.drew
  clear hwd;have HBc:=h_ hb;clear hb;refine toS ⟨(HN.next HBc.out).bex.box.cell (j:=6) rfl,(HN.next HBc.out).bex.box.cell (j:=11) rfl,(HN.next HBc.out).bex.box.cell (j:=12) rfl,(HN.next HBc.out).bex.box.cell (j:=13) rfl,(HN.next HBc.out).bex.box.cell (j:=14) rfl,(HN.next HBc.out).bex.box.cell (j:=15) rfl,(HN.next HBc.out).bex.box.cell (j:=16) rfl⟩ ?_;refine tkq 0 ?_;refine tkq 1 ?_;refine tkq 2 ?_;refine tkq 3 ?_;refine tkq 4 ?_;refine tkq 5 ?_;refine tkq 6 ?_;refine tkq 7 ?_;refine tkq 8 ?_;refine tkq 10 ?_;refine tkq 11 ?_;refine tkq 12 ?_;refine tkq 13 ?_;refine tkq 14 ?_;refine s2q 9 20 (fun K hK=> ?_) (fun K hK=> ?_)
  ·go_simp;go_at_call 54
   with_reducible refine(HS.out _ HBc.out).mono ?_
   rintro en w2 ⟨rfl,hb5⟩;replace HBc:=h_ (HBc.trans (hb5.mono HBc.size));clear hb5;refine hK.out _ _ ⟨(HN.next HBc.out).bex.box.cell (j:=6) rfl,(HN.next HBc.out).bex.box.cell (j:=11) rfl,(HN.next HBc.out).bex.box.cell (j:=12) rfl,(HN.next HBc.out).bex.box.cell (j:=13) rfl,(HN.next HBc.out).bex.box.cell (j:=14) rfl,(HN.next HBc.out).bex.box.cell (j:=15) rfl,(HN.next HBc.out).bex.box.cell (j:=16) rfl⟩ ?_;clear hK K;refine s2q 15 20 (fun K hK=> ?_) (fun K hK=> ?_)
   ·go_simp;have hU:Old (Un S T) w2:=fun j hj=>by
     rcases hj with h5|h5
     ·have:=HN.os j h5;have:=HBc.size;omega
     ·have:=HN.ot j h5;have:=HBc.size;omega
    go_at_call 57
    with_reducible refine(HBG.out _ HBc.out).mono ?_
    rintro en w3 ⟨rfl,hb5⟩;replace HBc:=h_ (HBc.trans (hb5.mono HBc.size));clear hb5 hU;refine hK.out _ _ ⟨(HN.next HBc.out).bex.box.cell (j:=6) rfl,(HN.next HBc.out).bex.box.cell (j:=11) rfl,(HN.next HBc.out).bex.box.cell (j:=12) rfl,(HN.next HBc.out).bex.box.cell (j:=13) rfl,(HN.next HBc.out).bex.box.cell (j:=14) rfl,(HN.next HBc.out).bex.box.cell (j:=15) rfl,(HN.next HBc.out).bex.box.cell (j:=16) rfl⟩ ?_;clear hK K;refine tkq 16 ?_;refine tkq 17 ?_;refine tkq 18 ?_;refine tkq 19 ?_;refine soq 20 (fun K hK=> ?_);go_simp;refine new_block ?_;intro w4 hxb hbb hsb;have HGc:=h_ hxb;obtain⟨gr,hgr⟩:∃q,q=w3.heap.size:= ⟨_,rfl⟩;rw[←hgr]at HGc ⊢;have HGW:Hid (w.heap.size≤gr):=by show _≤_;have:=HBc.size;omega
    replace HBc:=h_ (HBc.trans (hbb.mono HBc.size));clear hxb hbb hsb hgr;refine hK.out _ _ ⟨(HN.next HBc.out).bex.box.cell (j:=6) rfl,(HN.next HBc.out).bex.box.cell (j:=11) rfl,(HN.next HBc.out).bex.box.cell (j:=12) rfl,(HN.next HBc.out).bex.box.cell (j:=13) rfl,(HN.next HBc.out).bex.box.cell (j:=14) rfl,(HN.next HBc.out).bex.box.cell (j:=15) rfl,(HN.next HBc.out).bex.box.cell (j:=16) rfl⟩ ?_;clear hK K;refine soq 21 (fun K hK=> ?_);rw[if_pos (by rfl)];refine op_store_bex layHd (.tmp 4) (.tmp 24) rfl gr ⟨0,0,0⟩ _ rfl rfl HGc.out rfl ?_;intro w5 hx hw;replace HGc:=h_ hx;replace HBc:=h_ (HBc.trans (hw.below _ HGW.out));clear hx hw;refine hK.out _ _ ⟨(HN.next HBc.out).bex.box.cell (j:=6) rfl,(HN.next HBc.out).bex.box.cell (j:=11) rfl,(HN.next HBc.out).bex.box.cell (j:=12) rfl,(HN.next HBc.out).bex.box.cell (j:=13) rfl,(HN.next HBc.out).bex.box.cell (j:=14) rfl,(HN.next HBc.out).bex.box.cell (j:=15) rfl,(HN.next HBc.out).bex.box.cell (j:=16) rfl⟩ ?_;clear hK K;refine tkq 22 ?_;refine tkq 23 ?_;refine sdq ?_;revert HGc;revert HBc;revert HGW;revert gr;revert w5;exact CUT.out
   ·go_simp;refine new_block ?_;intro w3 hxb hbb hsb;have HGc:=h_ hxb;obtain⟨gr,hgr⟩:∃q,q=w2.heap.size:= ⟨_,rfl⟩;rw[←hgr]at HGc ⊢;have HGW:Hid (w.heap.size≤gr):=by show _≤_;have:=HBc.size;omega
    replace HBc:=h_ (HBc.trans (hbb.mono HBc.size));clear hxb hbb hsb hgr;exact tq29
  ·go_simp;refine new_block ?_;intro w2 hxb hbb hsb;have HGc:=h_ hxb;obtain⟨gr,hgr⟩:∃q,q=w1.heap.size:= ⟨_,rfl⟩;rw[←hgr]at HGc ⊢;have HGW:Hid (w.heap.size≤gr):=by show _≤_;have:=HBc.size;omega
   replace HBc:=h_ (HBc.trans (hbb.mono HBc.size));clear hxb hbb hsb hgr;refine hK.out _ _ ⟨(HN.next HBc.out).bex.box.cell (j:=6) rfl,(HN.next HBc.out).bex.box.cell (j:=11) rfl,(HN.next HBc.out).bex.box.cell (j:=12) rfl,(HN.next HBc.out).bex.box.cell (j:=13) rfl,(HN.next HBc.out).bex.box.cell (j:=14) rfl,(HN.next HBc.out).bex.box.cell (j:=15) rfl,(HN.next HBc.out).bex.box.cell (j:=16) rfl⟩ ?_;clear hK K;refine soq 9 (fun K hK=> ?_);go_simp;go_at_call 54
   with_reducible refine(HS.out _ HBc.out).mono ?_
   rintro en w3 ⟨rfl,hb5⟩;replace HGc:=h_ (HGc.next hb5);replace HBc:=h_ (HBc.trans (hb5.mono HBc.size));clear hb5;exact tq29
 intro w5 gr HGW HBc HGc;go_wp2_with(go_at_call 22;((with_reducible refine(HAG.out _ HBc.out).mono ?_);rintro en w6 ⟨rfl,hnd,hon⟩;have HN6:=h_ hnd;have HO6:=h_ hon;clear hnd hon));go_end0;have hs:Stp T w T w6:=(Stp.below HBc.out).trans (.of_keep (HO6.kept HN.tg));have HQ2:r= (Raf.again x.n now,[]):=HQ.out;refine⟨rfl,T,_,e,hs,?_,HN6.out,HE.stp hs (fun j hj=> ?_),?_⟩
 ·rw[HQ2]
 ·have hlt:=HE.own.lt j hj;exact(HO6.block j (by have:=HBc.size;omega) (HE.in_ j hj).2).trans (HBc.block j hlt)
 ·rw[HQ2,List.append_nil]
end Go.Proofs.YtoeofkcpclfnhaaGreat
