import Derived.Test.YtoeofkcpclfnhaaGreatSrNdHear1
import Derived.Test.YtoeofkcpclfnhaaGreatSr25
set_option linter.unusedVariables false
set_option linter.unusedSimpArgs false
namespace Go.Proofs.YtoeofkcpclfnhaaGreat
open Go.ChangeShapes Go.WideShapes Go.ChangeAt Go.RowKit
set_option maxRecDepth 100000
set_option maxHeartbeats 16000000
theorem Gd.rise{n:Raf.RN}{D:Nat}(h:Gd n D){t:Int}(ht:t≤ 1099511627776):Gd (Raf.riseF n t) D:=by
 unfold Raf.riseF
 split
 ·rename_i h5
  have:=h.lt;have:=h.t0;exact⟨h.ok,by show lastT 0 n.es≤t;omega,h.len,h.self1,h.self7,h.el1,h.el2,h.pu1,h.pu2,h.dl,by show 0≤t;omega,ht,h.c0,h.c1,h.d0,h.d1,h.pl,h.pb,h.D1⟩
 ·exact h
theorem rise_le(n:Raf.RN)(t:Int):t≤ (Raf.riseF n t).hT∧(Raf.riseF n t).es=n.es∧ (Raf.riseF n t).self=n.self:= by
 unfold Raf.riseF
 split
 ·exact⟨Int.le_refl _,rfl,rfl⟩
 ·exact⟨by omega,rfl,rfl⟩
theorem MsAt.both{U U':Nat→ Prop}{w w':World}{x:Ms}(h:MsAt U w x)(h':MsAt U w' x)(hU:∀k,U' k→U k∨w.heap.size≤ k):MsAt U' w' x:=⟨h.ent.both h'.ent hU,h.eq⟩
theorem hear1_nd{S T:Nat→ Prop}{w:World}{g:Nat}{x:Nd}{e:Ef}{p0 p1 p2 D:Nat}(h:NdAt S T w g x e)(he:EfAt S T w g e)(hg:Gd x.n D)(h1:e.al= [])(h2:e.aa= none)(h3:e.ac= 0)(hl:e.sl.length≤ 800000)(m:Ms)(now:Int)(hm:∀w',Stp T w T w'→MsAt (Un S T) w' m)(hn0:0≤ now)(hn1:now≤ 1099511627776)(hD:7≤ D)(hD1:D+ 1≤100000)(h39:x.n.es.length≤ 3999)(hml:m.es.length≤ 1000000)(hk1:1≤ m.m.kind)(hk4:m.m.kind≤ 4)(hf1:1≤ m.m.src)(hf7:m.m.src≤ 7)(hdd:m.m.dst= x.n.self)(ht1:1≤ m.m.term)(ht2:m.m.term≤ 1099511627776)(hb0:Bex w p0 [.pointer (some ⟨g,0,none⟩)])(hb1:Bex w p1 (cellsMs m))(hb2:Bex w p2 [.int .i64 now])(hq:¬T p0∧¬T p1∧¬T p2):
 Calls Tryz.prog 30 #[.pointer (some ⟨p0,0,none⟩),.pointer (some ⟨p1,0,none⟩),.pointer (some ⟨p2,0,none⟩)] w (RetSt S T w g e (hearG x.n m.m now).1 (hearG x.n m.m now).2):=by
 by_cases hsd:m.m.src= x.n.self
 ·have e1:hearG x.n m.m now=(x.n,[]):=if_pos hsd;rw[e1];exact hear1_self h he m now hk1 hk4 hf1 hf7 hsd hb0 hb1 hb2 hq
 ·have hg2:=hg.rise ht2;obtain⟨r1,r2,r3⟩:=rise_le x.n m.m.term;have hr39:(Raf.riseF x.n m.m.term).es.length≤3999:= by rw[r2];exact h39
  rcases(by omega:m.m.kind= 1∨m.m.kind= 2∨m.m.kind= 3∨m.m.kind= 4)with hk|hk| hk|hk
  ·have e1:hearG x.n m.m now=voteAskF (Raf.riseF x.n m.m.term) m.m now:=(if_neg hsd).trans (if_pos hk);rw[e1];exact hear1_1 h he m now _ hk hf1 hf7 hsd hdd ht1 (fun w' hst hn' he'=>voteAsk_nd hn' he' hg2 m now hn0 hn1 o_ hk hf1 hf7 (by show _≠(Raf.riseF _ _).self;rw[r3];exact hsd) ht1 r1) hb0 hb1 hb2 hq
  ·have e1:hearG x.n m.m now=voteTellF (Raf.riseF x.n m.m.term) m.m now:=(if_neg hsd).trans ((if_neg o_).trans (if_pos hk));rw[e1];exact hear1_2 h he m now _ hk hf1 hf7 hsd hdd ht1 (fun w' hst hn' he'=>voteTell_nd hn' he' hg2 h1 h2 h3 m now hn0 hn1 o_ hf1 hf7 (by show 1≤(Raf.riseF _ _).hT;omega) hD hr39) hb0 hb1 hb2 hq
  ·have e1:hearG x.n m.m now=appendAskF (Raf.riseF x.n m.m.term) m.m now:=(if_neg hsd).trans ((if_neg o_).trans ((if_neg o_).trans (if_pos hk)));rw[e1];exact hear1_3 h he m now _ hk hf1 hf7 hsd hdd ht1 (fun w' hst hn' he'=>appendAsk_nd hn' he' hg2 m (hm w' hst) now hn0 hn1 o_ hml) hb0 hb1 hb2 hq
  ·have e1:hearG x.n m.m now=appTellF (Raf.riseF x.n m.m.term) m.m:=(if_neg hsd).trans ((if_neg o_).trans ((if_neg o_).trans (if_neg o_)));rw[e1];exact hear1_4 h he m now _ hk hf1 hf7 hsd hdd ht1 (fun w' hst hn' he'=>appTell_nd hn' he' hg2 m now o_ hD1) hb0 hb1 hb2 hq
theorem hear_eq{n:Raf.RN}{m:WMsg}(now:Int)(hk1:1≤ m.kind)(hk4:m.kind≤ 4)(hf1:1≤ m.src)(hf7:m.src≤ 7)(hdd:m.dst= n.self)(ht1:1≤ m.term):Raf.hearF n m now=(Raf.endF (hearG n m now).1,(hearG n m now).2):=by
 unfold Raf.hearF hearG;by_cases hsd:m.src= n.self
 ·rw[if_pos (.inr (.inr (.inr (.inr (.inl hsd))))),if_pos hsd]
 ·rw[if_neg (fun h=>by rcases h with h|h| h|h| h|h| h;omega;omega;omega;omega;exact hsd h;exact h hdd;omega),if_neg hsd];generalize Raf.riseF n m.term=n;show(if m.kind=1 then _ else _)=_
  by_cases h1:m.kind= 1
  ·rw[if_pos h1,if_pos h1];unfold voteAskF yesF;simp only[Bool.and_assoc]
  ·rw[if_neg h1,if_neg h1];by_cases h2:m.kind= 2
   ·rw[if_pos h2,if_pos h2];unfold voteTellF
    split
    ·show(if _ then _ else _)=_
     split<;>rfl
    ·rfl
   ·rw[if_neg h2,if_neg h2];by_cases h3:m.kind= 3
    ·rw[if_pos h3,if_pos h3];unfold appendAskF
     split
     ·rfl
     ·show(if _ then _ else _)=_
      split
      ·rename_i h4;rw[if_pos h4]
      ·rename_i h4
       rw[if_neg h4]
       split<;>rfl
    ·rw[if_neg h3,if_neg h3];unfold appTellF
     split<;>rfl
theorem enter_hear(args:Array Value)(w:World):(callFunc 30 args).run Tryz.prog w= .ok (.enter 30 args) w:=k_
theorem hear_nd{S T:Nat→ Prop}{w:World}{g:Nat}{x:Nd}{e:Ef}{D:Nat}(h:NdAt S T w g x e)(hg:Gd x.n D)(m:Ms)(hm:MsAt (Un S T) w m)(now:Int)(hn0:0≤ now)(hn1:now≤ 1099511627776)(hD:7≤ D)(hD1:D+ 1≤100000)(h39:x.n.es.length≤ 3999)(hml:m.es.length≤ 1000000)(hk1:1≤ m.m.kind)(hk4:m.m.kind≤ 4)(hf1:1≤ m.m.src)(hf7:m.m.src≤ 7)(hdd:m.m.dst= x.n.self)(ht1:1≤ m.m.term)(ht2:m.m.term≤ 1099511627776)(hok:okR 0 0 (hearG x.n m.m now).1.es=true)(hlen:(hearG x.n m.m now).1.es.length≤4096)(hs:(hearG x.n m.m now).1.self=x.n.self):
 Calls Tryz.prog 10 #[.pointer (some ⟨g,0,none⟩),.agg (cellsMs m).toArray,.int .i64 now] w (RetEf S T w g (hearG x.n m.m now).1 (hearG x.n m.m now).2):=by
 have HB4:=h_ (bex4 w [.pointer (some ⟨g,0,none⟩)] (cellsMs m) [.int .i64 now] [.bool false,.int .i64 0,.slice none 0 0,.bool false,.slice none 0 0,.int .i64 0] 25 59 3 54);have HOT:Hid (Old T w):=h.ot
 have HST:=h_ (step_out (q:=w.heap.size+ 1+1+ 1) 30 #[.pointer (some ⟨w.heap.size,0,none⟩),.pointer (some ⟨w.heap.size+1,0,none⟩),.pointer (some ⟨w.heap.size+1+ 1,0,none⟩)] (hearG x.n m.m now).1 (hearG x.n m.m now).2 h HB4.1 o_ HB4.2.2.2.2.1.lt enter_hear (fun w' S' h5 h6 _ hst hn he=>hear1_nd hn he hg rfl rfl rfl d_ m now
  (fun w2 hst2=>hm.both (hm.step ((Stp.below HB4.1).trans (hst.trans hst2)).keep (fun _ h7=> .inr h7) (fun _ _ h7=>h7)) (fun k h7=>h7.elim (fun h8=>(h6 k h8).imp .inl id) (fun h8=> .inl (.inr h8)))) hn0 hn1 hD hD1 h39 hml hk1 hk4 hf1 hf7 hdd ht1 ht2
  (HB4.2.1.block (hst.keep.block _ HB4.2.1.lt (fun h7=>by have:=HOT.out _ h7;omega))) (HB4.2.2.1.block (hst.keep.block _ HB4.2.2.1.lt (fun h7=>by have:=HOT.out _ h7;omega))) (HB4.2.2.2.1.block (hst.keep.block _ HB4.2.2.2.1.lt (fun h7=>by have:=HOT.out _ h7;omega))) ⟨fun h7=>by have:=HOT.out _ h7;omega,fun h7=>by have:=HOT.out _ h7;omega,fun h7=>by have:=HOT.out _ h7;omega⟩) hok hlen (by rw[hs];exact hg.self1) (by rw[hs];exact hg.self7))
 generalize hearG x.n m.m now=r at HST ⊢;have k0:=HB4.2.1.box.cell (j:=0) rfl;clear h hg hm hn0 hn1 hD hD1 h39 hml hk1 hk4 hf1 hf7 hdd ht1 ht2 hok hlen hs HOT;go_enter Tryz.func10,Tryz.ntmps10;go_wp2_with(first|(go_at_call 26;((with_reducible refine HST.out.mono ?_);rintro en w4 ⟨ef,rfl,hq,hout⟩;have HX4:=h_ (HB4.2.2.2.2.1.block hq);have HO4:=h_ hout;clear hq hout k0))|((with_reducible refine at_store 54 (.tmp 6) (.tmp 9) ?_);refine wpList_store_bex layEf rfl (.tmp 6) (.tmp 9) rfl (w.heap.size+1+ 1+1) ef _ rfl rfl HX4.out rfl ?_;intro w5 hx hw;have HO5:=h_ (HO4 _ hw);have j0:=hx.box.cell (j:=0) rfl;have j1:=hx.box.cell (j:=1) rfl;have j2:=hx.box.cell (j:=2) rfl;have j3:=hx.box.cell (j:=3) rfl;have j4:=hx.box.cell (j:=4) rfl;have j5:=hx.box.cell (j:=5) rfl;clear hx hw));exact bodyPost_ret (v:= .agg (cellsEf ef).toArray) (by simp[results,Tryz.results10,go_sem,j0,j1,j2,j3,j4,j5]) rfl HO5.out
theorem hear_wk{S T:Nat→ Prop}{w:World}{g:Nat}{x:Nd}{e:Ef}{D:Nat}(h:NdAt S T w g x e)(hg:Gd x.n D)(m:Ms)(hm:MsAt (Un S T) w m)(now:Int)(hn0:0≤ now)(hn1:now≤ 1099511627776)(hD:7≤ D)(hD1:D+ 1≤100000)(h39:x.n.es.length≤ 3999)(hml:m.es.length≤ 1000000)(hk:m.m.kind= 2)(hf1:1≤ m.m.src)(hf7:m.m.src≤ 7)(hsd:m.m.src≠ x.n.self)(hdd:m.m.dst= x.n.self)(ht1:1≤ m.m.term)(ht2:m.m.term≤ 1099511627776)(hy:(Raf.riseF x.n m.m.term).role=1∧ m.m.term=(Raf.riseF x.n m.m.term).hT∧m.m.ok= true)(hmj:Raf.majB (Raf.latS (Raf.riseF x.n m.m.term).base (Raf.riseF x.n m.m.term).es).1.toNat ((Raf.riseF x.n m.m.term).yes ||| Raf.bitOf m.m.src).toNat=true)(hok:okR 0 0 (hearG x.n m.m now).1.es=true)(hlen:(hearG x.n m.m now).1.es.length≤4096)(hs:(hearG x.n m.m now).1.self=x.n.self):
 Calls Tryz.prog 10 #[.pointer (some ⟨g,0,none⟩),.agg (cellsMs m).toArray,.int .i64 now] w (RetEfX S T w g (hearG x.n m.m now).1 (hearG x.n m.m now).2 (HdX (fun n=>n= 1) x.n (hearG x.n m.m now).1)):=by
 have HB4:=h_ (bex4 w [.pointer (some ⟨g,0,none⟩)] (cellsMs m) [.int .i64 now] [.bool false,.int .i64 0,.slice none 0 0,.bool false,.slice none 0 0,.int .i64 0] 25 59 3 54);have HOT:Hid (Old T w):=h.ot;have hgx:hearG x.n m.m now=voteTellF (Raf.riseF x.n m.m.term) m.m now:=(if_neg hsd).trans ((if_neg o_).trans (if_pos hk))
 have HST:=h_ (step_outX (q:=w.heap.size+ 1+1+ 1) (fun n=>n= 1) 30 #[.pointer (some ⟨w.heap.size,0,none⟩),.pointer (some ⟨w.heap.size+1,0,none⟩),.pointer (some ⟨w.heap.size+1+ 1,0,none⟩)] (hearG x.n m.m now).1 (hearG x.n m.m now).2 h HB4.1 o_ HB4.2.2.2.2.1.lt enter_hear (fun w' S' h5 h6 _ hst hn he=>by
  obtain⟨r1,r2,r3⟩:=rise_le x.n m.m.term;rw[hgx];exact hear1_2X hn he (fun n=>n= 1) m now _ hk hf1 hf7 hsd hdd ht1 (fun w' hst hn' he'=>voteTell_yesX hn' he' (hg.rise ht2) rfl rfl rfl m now hn0 hn1 d_ hf1 hf7 (by show 1≤(Raf.riseF _ _).hT;omega) hD (by show(Raf.riseF _ _).es.length≤_;rw[r2];exact h39) hy (fun n=>n= 1) (fun _ h7=>h7 hmj))
   (HB4.2.1.block (hst.keep.block _ HB4.2.1.lt (fun h7=>by have:=HOT.out _ h7;omega))) (HB4.2.2.1.block (hst.keep.block _ HB4.2.2.1.lt (fun h7=>by have:=HOT.out _ h7;omega))) (HB4.2.2.2.1.block (hst.keep.block _ HB4.2.2.2.1.lt (fun h7=>by have:=HOT.out _ h7;omega))) ⟨fun h7=>by have:=HOT.out _ h7;omega,fun h7=>by have:=HOT.out _ h7;omega,fun h7=>by have:=HOT.out _ h7;omega⟩) hok hlen (by rw[hs];exact hg.self1) (by rw[hs];exact hg.self7))
 clear hgx;generalize hearG x.n m.m now=r at HST ⊢;have k0:=HB4.2.1.box.cell (j:=0) rfl;clear h hg hm hn0 hn1 hD hD1 h39 hml hk hf1 hf7 hsd hdd hy hmj ht1 ht2 hok hlen hs HOT;go_enter Tryz.func10,Tryz.ntmps10;go_wp2_with(first|(go_at_call 26;((with_reducible refine HST.out.mono ?_);rintro en w4 ⟨ef,rfl,hψ,hq,hout⟩;have HΨ:=h_ hψ;clear hψ;have HX4:=h_ (HB4.2.2.2.2.1.block hq);have HO4:=h_ hout;clear hq hout k0))|((with_reducible refine at_store 54 (.tmp 6) (.tmp 9) ?_);refine wpList_store_bex layEf rfl (.tmp 6) (.tmp 9) rfl (w.heap.size+1+ 1+1) ef _ rfl rfl HX4.out rfl ?_;intro w5 hx hw;have HO5:=h_ (HO4 _ hw);have j0:=hx.box.cell (j:=0) rfl;have j1:=hx.box.cell (j:=1) rfl;have j2:=hx.box.cell (j:=2) rfl;have j3:=hx.box.cell (j:=3) rfl;have j4:=hx.box.cell (j:=4) rfl;have j5:=hx.box.cell (j:=5) rfl;clear hx hw));exact bodyPost_ret (v:= .agg (cellsEf ef).toArray) (by simp[results,Tryz.results10,go_sem,j0,j1,j2,j3,j4,j5]) rfl ⟨ef,rfl,HΨ.out,HO5.out⟩
structure Su where
 self:Int
 base:UInt8
 elect:Int
 pulse:Int
 a:Option Addr
 n:Nat
 c:Nat
abbrev cellsSu(x:Su):List Value:=[.int .i64 x.self,B x.base,.int .i64 x.elect,.int .i64 x.pulse,.slice x.a x.n x.c]
def laySu:Lay Tryz.prog 43 Su:=Lay.struct cellsSu 5 56 (fun _=>rfl) d_ d_ (fun x u hu=>by simp at hu;rcases hu with h|h| h|h| h<;>subst h<;>rfl) k_ _ Tryz.underlying43 rfl
theorem setup_any(k:Int)(w:World):Calls Tryz.prog 6 #[.int .i64 k] w (fun en w'=>∃g,en= .returned (.agg #[.int .i64 k,B 7,.int .i64 1000,.int .i64 250,.slice (some ⟨g,0,none⟩) 2 2])∧w.heap.size≤ g∧Bex w' g [.int .i64 5,.int .i64 7]∧Below w.heap.size w w'):=by
 have HB2:=h_ (bex2 w [.int .i64 0,.int .u8 0,.int .i64 0,.int .i64 0,.slice none 0 0] [.int .i64 5,.int .i64 7] 43 3);go_enter Tryz.func6,Tryz.ntmps6;go_wp2_with((with_reducible refine at_store 43 (.tmp 2) (.tmp 5) ?_);refine wpList_store_bex laySu rfl (.tmp 2) (.tmp 5) rfl w.heap.size ⟨k,7,1000,250,some ⟨w.heap.size+1,0,none⟩,2,2⟩ _ rfl rfl HB2.2.1 rfl ?_;intro w1 hx hw;have HW:=h_ hw;have j0:=hx.box.cell (j:=0) rfl;have j1:=hx.box.cell (j:=1) rfl;have j2:=hx.box.cell (j:=2) rfl;have j3:=hx.box.cell (j:=3) rfl;have j4:=hx.box.cell (j:=4) rfl;clear hx hw);refine bodyPost_ret (v:= .agg #[.int .i64 k,B 7,.int .i64 1000,.int .i64 250,.slice (some ⟨w.heap.size+1,0,none⟩) 2 2]) (by simp[results,Tryz.results6,go_sem,j0,j1,j2,j3,j4]) rfl ?_;exact⟨w.heap.size+1,rfl,by omega,HB2.2.2.1.wrote HW.out o_,HB2.1.trans (HW.below _ n_)⟩
theorem row_cells{w:World}{a:Option Addr}{xs:List Value}(h:Row w a xs)(h0:xs≠ []):∃b o,a=some ⟨b,o,none⟩∧∀j v,xs[j]? =some v→w.cell? ⟨b,o+j,none⟩=some v:=by
 rcases h with h5|⟨b,o,h5,hc⟩
 ·exact absurd h5 h0
 ·refine⟨b,o,h5,fun j v hj=> ?_⟩;obtain⟨h6,e⟩:=List.getElem?_eq_some_iff.1 hj;rw[hc j h6,e]
theorem tq70 {P:Prop}(h:P:=by
 refine hK.out _ _ ⟨(HA _ HBz.out).1,(HA _ HBz.out).2.1,(HA _ HBz.out).2.2.1,(HA _ HBz.out).2.2.2.1,(HA _ HBz.out).2.2.2.2,(HB _ HBz.out).1,(HB _ HBz.out).2.1,(HB _ HBz.out).2.2.1,(HB _ HBz.out).2.2.2.1,(HB _ HBz.out).2.2.2.2⟩ ?_;clear hK K;refine soq 10 (fun K hK=> ?_);rw[if_pos (by rfl)];refine op_store_bex layRw (.tmp 6) (.tmp 22) rfl g6 ((⟨v0,v1,v2,v3,v4⟩,(p0,p1)):RwE) _ rfl rfl HX6.out rfl ?_;intro w5 hx hw;replace HX6:=h_ hx;replace HX7:=h_ (HX7.wrote hw HNE.symm);replace HBz:=h_ (HBz.trans (hw.below _ HGW6.out));clear hx hw;refine hK.out _ _ ⟨(HA _ HBz.out).1,(HA _ HBz.out).2.1,(HA _ HBz.out).2.2.1,(HA _ HBz.out).2.2.2.1,(HA _ HBz.out).2.2.2.2,(HB _ HBz.out).1,(HB _ HBz.out).2.1,(HB _ HBz.out).2.2.1,(HB _ HBz.out).2.2.2.1,(HB _ HBz.out).2.2.2.2⟩ ?_;clear hK K;refine soq 11 (fun K hK=> ?_);rw[if_pos (by rfl)];refine op_store_bex layRw (.tmp 7) (.tmp 26) rfl g7 ((⟨v0,v1,v2,v3,v4⟩,(q0,q1)):RwE) _ rfl rfl HX7.out rfl ?_;intro w6 hx hw;replace HX7:=h_ hx;replace HX6:=h_ (HX6.wrote hw HNE.out);replace HBz:=h_ (HBz.trans (hw.below _ HGW7.out));clear hx hw;refine hK.out _ _ ⟨(HA _ HBz.out).1,(HA _ HBz.out).2.1,(HA _ HBz.out).2.2.1,(HA _ HBz.out).2.2.2.1,(HA _ HBz.out).2.2.2.2,(HB _ HBz.out).1,(HB _ HBz.out).2.1,(HB _ HBz.out).2.2.1,(HB _ HBz.out).2.2.2.1,(HB _ HBz.out).2.2.2.2⟩ ?_;clear hK K;refine sdq ?_;clear HNE;revert HX7;revert HX6;revert HBz;revert HGW7;revert HGW6;revert g7;revert g6;revert w6
 exact CUT.out):P:=h
theorem same_one(y:WEnt)(p0 q0:Option Addr)(p1 q1:Nat)(a b:Option Addr)(c d:Nat)(w:World)(hp:RowB w p0 y.data)(hq:RowB w q0 y.data)(ha:Row w a (cellsRw (y,(p0,p1))))(hb:Row w b (cellsRw (y,(q0,q1))))(hc:1≤ c)(hd:1≤ d):
 Calls Tryz.prog 25 #[.slice a 1 c,.slice b 1 d] w (fun en w'=>en= .returned (.bool true)∧Below w.heap.size w w'):=by
 obtain⟨v0,v1,v2,v3,v4⟩:=y;simp only at hp hq;obtain⟨ba,oa,rfl,hca⟩:=row_cells ha (by simp);obtain⟨bb,ob,rfl,hcb⟩:=row_cells hb (by simp);have HA:Hid (∀w',Below w.heap.size w w'→w'.cell? ⟨ba,oa,none⟩=some (.int .i64 v0)∧w'.cell? ⟨ba,oa+1,none⟩=some (.int .i8 v1)∧w'.cell? ⟨ba,oa+2,none⟩=some (.int .i64 v2)∧w'.cell? ⟨ba,oa+3,none⟩=some (B v3)∧w'.cell? ⟨ba,oa+4,none⟩=some (.slice p0 v4.length p1)):=fun w' h5=>⟨cell_next h5 (hca 0 _ rfl),cell_next h5 (hca 1 _ rfl),cell_next h5 (hca 2 _ rfl),cell_next h5 (hca 3 _ rfl),cell_next h5 (hca 4 _ rfl)⟩
 have HB:Hid (∀w',Below w.heap.size w w'→w'.cell? ⟨bb,ob,none⟩=some (.int .i64 v0)∧w'.cell? ⟨bb,ob+1,none⟩=some (.int .i8 v1)∧w'.cell? ⟨bb,ob+2,none⟩=some (.int .i64 v2)∧w'.cell? ⟨bb,ob+3,none⟩=some (B v3)∧w'.cell? ⟨bb,ob+4,none⟩=some (.slice q0 v4.length q1)):=fun w' h5=>⟨cell_next h5 (hcb 0 _ rfl),cell_next h5 (hcb 1 _ rfl),cell_next h5 (hcb 2 _ rfl),cell_next h5 (hcb 3 _ rfl),cell_next h5 (hcb 4 _ rfl)⟩
 have HP:=h_ (And.intro hp hq);have i1:(0:Nat)<c:= hc;have i2:(0:Nat)<d:= hd;clear hp hq hca hcb ha hb hc hd;go_enter Tryz.func25,Tryz.ntmps25;go_wp2_with fail;go_loopw [5] (fun kv wr=>∃k: Nat,k≤1∧ kv= .int .i64 (k:Int)∧Hid (Below w.heap.size w wr)) (fun kv _=>1- (intOf kv).toNat)
 case atStart=>exact ⟨0,by omega,rfl,Below.refl _ _⟩
 case round=>
  obtain⟨k,hk,rfl,HBv⟩:=hrel;rcases(by omega:k= 0∨k= 1)with rfl|rfl
  ·clear hk;go_upto_region 6 with fail;apply cut_here
   ·intro CUT;refine wrq (fun l w'=>(w'.cell? ⟨ba,oa,none⟩=some (.int .i64 v0)∧w'.cell? ⟨ba,oa+1,none⟩=some (.int .i8 v1)∧w'.cell? ⟨ba,oa+2,none⟩=some (.int .i64 v2)∧w'.cell? ⟨ba,oa+3,none⟩=some (B v3)∧w'.cell? ⟨ba,oa+4,none⟩=some (.slice p0 v4.length p1)∧w'.cell? ⟨bb,ob,none⟩=some (.int .i64 v0)∧w'.cell? ⟨bb,ob+1,none⟩=some (.int .i8 v1)∧w'.cell? ⟨bb,ob+2,none⟩=some (.int .i64 v2)∧w'.cell? ⟨bb,ob+3,none⟩=some (B v3)∧w'.cell? ⟨bb,ob+4,none⟩=some (.slice q0 v4.length q1))) ?_;obtain⟨w2,hwd⟩:∃y,y=World.drew wr:=⟨_,rfl⟩;rw[←hwd];have hb:Below wr.heap.size wr w2:=by rw[hwd];exact b_.drew
    clear hwd;have HBz:=h_ (HBv.trans (hb.mono HBv.size));clear hb;refine toS ⟨(HA _ HBz.out).1,(HA _ HBz.out).2.1,(HA _ HBz.out).2.2.1,(HA _ HBz.out).2.2.2.1,(HA _ HBz.out).2.2.2.2,(HB _ HBz.out).1,(HB _ HBz.out).2.1,(HB _ HBz.out).2.2.1,(HB _ HBz.out).2.2.2.1,(HB _ HBz.out).2.2.2.2⟩ ?_;refine tkq 0 ?_;refine tkq 1 ?_;refine tkq 2 ?_;refine tkq 3 ?_;refine tkq 4 ?_;refine tkq 5 ?_;refine tkq 6 ?_;refine tkq 7 ?_;refine s2q 8 9 (fun K hK=> ?_) (fun K hK=> ?_)
    ·go_simp;refine new_block ?_;intro w3 hxb hbb hsb;have HX6:=h_ hxb;obtain⟨g6,hg6⟩:∃q,q=w2.heap.size:= ⟨_,rfl⟩;rw[←hg6]at HX6 ⊢;have HGW6:Hid (w.heap.size≤g6):=by show _≤_;have:=HBz.size;omega
     replace HBz:=h_ (HBz.trans (hbb.mono HBz.size));clear hxb hbb hsb hg6;refine hK.out _ _ ⟨(HA _ HBz.out).1,(HA _ HBz.out).2.1,(HA _ HBz.out).2.2.1,(HA _ HBz.out).2.2.2.1,(HA _ HBz.out).2.2.2.2,(HB _ HBz.out).1,(HB _ HBz.out).2.1,(HB _ HBz.out).2.2.1,(HB _ HBz.out).2.2.2.1,(HB _ HBz.out).2.2.2.2⟩ ?_;clear hK K;refine soq 9 (fun K hK=> ?_);go_simp;refine new_block ?_;intro w4 hxb hbb hsb;have HX7:=h_ hxb;obtain⟨g7,hg7⟩:∃q,q=w3.heap.size:= ⟨_,rfl⟩;rw[←hg7]at HX7 ⊢;have HGW7:Hid (w.heap.size≤g7):=by show _≤_;have:=HBz.size;omega
     have HNE:Hid (g6≠g7):=by show _≠_;have:=HX6.lt;omega
     replace HX6:=h_ (HX6.next hbb);replace HBz:=h_ (HBz.trans (hbb.mono HBz.size));clear hxb hbb hsb hg7;exact tq70
    ·go_simp;refine new_block ?_;intro w3 hxb hbb hsb;have HX7:=h_ hxb;obtain⟨g7,hg7⟩:∃q,q=w2.heap.size:= ⟨_,rfl⟩;rw[←hg7]at HX7 ⊢;have HGW7:Hid (w.heap.size≤g7):=by show _≤_;have:=HBz.size;omega
     replace HBz:=h_ (HBz.trans (hbb.mono HBz.size));clear hxb hbb hsb hg7;refine hK.out _ _ ⟨(HA _ HBz.out).1,(HA _ HBz.out).2.1,(HA _ HBz.out).2.2.1,(HA _ HBz.out).2.2.2.1,(HA _ HBz.out).2.2.2.2,(HB _ HBz.out).1,(HB _ HBz.out).2.1,(HB _ HBz.out).2.2.1,(HB _ HBz.out).2.2.2.1,(HB _ HBz.out).2.2.2.2⟩ ?_;clear hK K;refine soq 8 (fun K hK=> ?_);go_simp;refine new_block ?_;intro w4 hxb hbb hsb;have HX6:=h_ hxb;obtain⟨g6,hg6⟩:∃q,q=w3.heap.size:= ⟨_,rfl⟩;rw[←hg6]at HX6 ⊢;have HGW6:Hid (w.heap.size≤g6):=by show _≤_;have:=HBz.size;omega
     have HNE:Hid (g6≠g7):=by show _≠_;have:=HX7.lt;omega
     replace HX7:=h_ (HX7.next hbb);replace HBz:=h_ (HBz.trans (hbb.mono HBz.size));clear hxb hbb hsb hg6;exact tq70
   intro w6 g6 g7 HGW6 HGW7 HBz HX6 HX7;have c1:=conv_bytes (w:=w6) (c:=p1) (HP.1.below HBz.out) rfl;have c2:=conv_bytes (w:=w6) (c:=q1) (HP.2.below HBz.out) rfl;have x0:=HX6.box.cell (j:=0) rfl;have x1:=HX6.box.cell (j:=1) rfl;have x2:=HX6.box.cell (j:=2) rfl;have x3:=HX6.box.cell (j:=3) rfl;have x4:=HX6.box.cell (j:=4) rfl;have y0:=HX7.box.cell (j:=0) rfl;have y1:=HX7.box.cell (j:=1) rfl;have y2:=HX7.box.cell (j:=2) rfl;have y3:=HX7.box.cell (j:=3) rfl;have y4:=HX7.box.cell (j:=4) rfl;go_wp2_with fail;go_roundw
   case rel=>exact ⟨1,Nat.le_refl _,rfl,HBz.out⟩
   case measure=>simp [intOf]
  ·clear hk;go_wp2_with fail;go_ret;exact⟨rfl,HBv.out⟩
def RetEy(U:Nat→ Prop)(w:World)(y:WEnt)(en:Ending)(w':World):Prop:= ∃(p0:Option Addr) (p1:Nat),en= .returned (.tuple #[.agg #[.int .i64 y.term,.int .i8 y.kind,.int .i64 y.stamp,B y.set,.slice p0 y.data.length p1],.bool true])∧YAt U w' (y,(p0,p1))∧Below w.heap.size w w'
theorem entry_nd(U:Nat→ Prop)(es:List RwE)(a:Option Addr)(n c k:Nat)(w:World)(hU:Old U w)(hn:es.length= n)(hl:n≤ 4096)(hok:okR 0 0 (ents es)=true)(hc:n≤ c)(hr:Row w a (es.flatMap cellsRw))(hy:∀y∈ es,GoodY w y)(hk:k< es.length):
 Calls Tryz.prog 44 #[.agg #[.int .i64 0,.int .i64 0,.slice a n c],.int .i64 ((k:Int)+1)] w (RetEy U w es[k].1):=by
 obtain⟨ba,oa,rfl,hE⟩:=entAt hr hk;have hlen:(ents es).length=n:= by rw[ents_len,hn]
 have HB2:=h_ (bex2 w (cellsRs ⟨0,0,some ⟨ba,oa,none⟩,n,c⟩) [.int .i64 0,.int .i8 0,.int .i64 0,.int .u8 0,.slice none 0 0] 33 79);have HLA:=h_ (fun w' (hb:Below w.heap.size w w')=>refLast_any es 0 0 (some ⟨ba,oa,none⟩) n c w' hn o_ (hr.below hb));rw[lastF_ok hok,hlen]at HLA;have HCK:=h_ (fun w' (hb:Below w.heap.size w w')=>refcheck_any es 0 0 (some ⟨ba,oa,none⟩) n c w' hn o_ (hr.below hb));rw[chk_ok hok]at HCK;have hkn:k< n:=o_;have hrow:Row w (some ⟨ba,oa+k* 5,none⟩) ([es[k]].flatMap cellsRw):=by
  have h5:=hr.drop (k*5);rw[flatMap_drop (size:=5) (fun _=>rfl)]at h5;have h6:=(h5).take 5;rw[List.drop_eq_getElem_cons hk,List.flatMap_cons,List.take_left' (show(cellsRw es[k]).length=5 from rfl)]at h6;rw[List.flatMap_cons,List.flatMap_nil,List.append_nil];exact h6
 have HCP:=h_ (fun w' (hb:Below w.heap.size w w')=>refcopied_new [es[k]] (some ⟨ba,oa+k* 5,none⟩) 1 (c-k) w' rfl o_ (fun y h5=>by rw[List.mem_singleton]at h5;subst h5;exact⟨(hy _ (List.getElem_mem hk)).1.below hb,(hy _ (List.getElem_mem hk)).2.1⟩) (hrow.below hb));have hyl:=(hy _ (List.getElem_mem hk)).2.1;obtain⟨y,hyk⟩:∃y,es[k]=y:= ⟨_,rfl⟩;rw[hyk]at HCP hyl ⊢;have HYL:=h_ hyl;have HUO:Hid (Old U w):=hU;have e1:wrap64 ((k:Int)+1- 0)=(k:Int)+1:= by rw[Int.sub_zero];exact IntWalk.wrap64_in _ o_
 have e2:wrap64 ((k:Int)+1- 1)=(k:Int):=by rw[IntWalk.wrap64_in _ o_];omega
 have e1b:wrap64 ((k:Int)+1)=(k:Int)+1:= IntWalk.wrap64_in _ o_;have e2c:wrap64 (k:Int)=(k:Int):=IntWalk.wrap64_in _ o_;have i7a:k+ 1-k= 1:=o_;have e2b:(k:Int)+1- 1=(k:Int):=o_;have d1:decide ((k:Int)+1≤ 0)=false:= decide_eq_false o_;obtain⟨nz,hnz⟩:∃nz: Int,(0:Int)+(n:Int)=nz:= ⟨_,rfl⟩;have d2:decide (nz<(k:Int)+1)=false:= decide_eq_false o_;rw[hnz]at HLA;have i1:k+ 1≤c:= o_;have i2:k≤ k+1:= o_;have i3:¬c= k:=o_;have i4:¬(k:Int)<0:= o_;have i5:¬c- k=0:= o_;have j0:=HB2.2.1.box.cell (j:=0) rfl;have j1:=HB2.2.1.box.cell (j:=1) rfl;have j2:=HB2.2.1.box.cell (j:=2) rfl;clear hU hn hl hok hc hr hy hk hE hlen hkn hrow hyk hyl hnz;go_enter Tryz.func44,Tryz.ntmps44;go_upto_region 4 with(first|(go_at_call 70;((with_reducible refine(HLA.out _ HB2.out.1).mono ?_);rintro en w1 ⟨rfl,hb⟩;have HB1:=h_ (HB2.1.trans (hb.mono HB2.1.size));have HX1:=h_ (HB2.2.1.next hb);have HE1:=h_ (HB2.2.2.1.next hb);clear hb j0 j1 j2;have j0:=HX1.box.cell (j:=0) rfl;have j1:=HX1.box.cell (j:=1) rfl;have j2:=HX1.box.cell (j:=2) rfl))|(go_at_call 71;((with_reducible refine(HCK.out _ HB1.out).mono ?_);rintro en w2 ⟨rfl,hb⟩;have HBb:=h_ (HB1.trans (hb.mono HB1.size));have HX2:=h_ (HX1.next hb);have HE2:=h_ (HE1.next hb);clear hb j0 j1 j2;have j0:=HX2.box.cell (j:=0) rfl;have j1:=HX2.box.cell (j:=1) rfl;have j2:=HX2.box.cell (j:=2) rfl)));go_wp2_with(first|(go_at_call 72;((with_reducible refine(HCP.out _ HBb.out).mono ?_);rintro en w3 ⟨a9,c9,fs,rfl,hfs,hrw,hrb,hb,hnw⟩;have hfl:fs.length= 1:=(by have h5:=congrArg List.length hfs;rw[ents_len,ents_len]at h5;exact h5);obtain⟨z,rfl⟩:∃z,fs=[z]:=List.length_eq_one_iff.1 hfl;have hz:z.1= y.1:=(List.cons.inj hfs).1;clear hfl;obtain⟨b9,o9,rfl,hZ⟩:=entAt hrw (show 0<1 by decide);have HZ:=h_ hz;have HRB:=h_ (hrb z (List.mem_singleton.2 rfl));have HNW:=h_ (hnw.2.2.2.2 z (List.mem_singleton.2 rfl));have HB3:=h_ (HBb.trans (hb.mono HBb.size));have HE3:=h_ (HE2.next hb);have HSZ:=HBb.size;have i6:1≤ c9:=hnw.2.1;have i7:0< c9:=i6;obtain⟨z0,z1,z2,z3,z4⟩:=hZ;simp only[List.getElem_cons_zero,Nat.zero_mul,Nat.add_zero]at z0 z1 z2 z3 z4;clear hb hrw hrb hnw hfs hz j0 j1 j2))|((with_reducible refine at_store 79 (.tmp 4) (.tmp 42) ?_);refine wpList_store_bex layRw rfl (.tmp 4) (.tmp 42) rfl (w.heap.size+1) z _ rfl rfl HE3.out rfl ?_;intro w4 hx hw;have HW4:=h_ hw;have m0:=hx.box.cell (j:=0) rfl;have m1:=hx.box.cell (j:=1) rfl;have m2:=hx.box.cell (j:=2) rfl;have m3:=hx.box.cell (j:=3) rfl;have m4:=hx.box.cell (j:=4) rfl;clear hx hw));obtain⟨⟨x0,x1,x2,x3,x4⟩,⟨p0,p1⟩⟩:=z;simp only at m0 m1 m2 m3 m4;refine bodyPost_ret (v:= .tuple #[.agg #[.int .i64 x0,.int .i8 x1,.int .i64 x2,B x3,.slice p0 x4.length p1],.bool true]) (by simp[results,Tryz.results44,go_sem,m0,m1,m2,m3,m4]) rfl ?_;rw[←HZ.out];refine⟨p0,p1,rfl,?_,HB3.trans (HW4.below _ o_)⟩;have hlt:x4.length≤ 1000000:=by have h5:=HYL.out;rw[←HZ.out]at h5;exact h5
 have hu3:Old U w3:=fun k h5=>by have:=HUO.out k h5;have:=HSZ;have:=HW4.size;have:=HE3.lt;omega
 have hnb:FRow (fun k=>U k∨k= w.heap.size+1) w3 p0 (x4.map B):= .new (w:=w2) HRB.out (fun h0=>HNW.1 (fun h5=>h0 (by show(x4.map B)=[];rw[show x4=[]from h5];rfl))) (fun k h5=>by rcases h5 with h5|h5;(have:=HUO.out k h5;omega);(rw[h5];exact HE2.lt));exact⟨(hnb.step (Keep.wrote (T:=fun k=>k= w.heap.size+1) HW4.out rfl) (fun k h5=> .inr h5) (fun _ _ h5=>h5)).mono (fun _ h5=> .inl h5),hlt,HNW.2.1,HNW.2.2⟩
theorem row_one{w:World}{ba oa:Nat}{es:List RwE}(h:Row w (some ⟨ba,oa,none⟩) (es.flatMap cellsRw)){k:Nat}(hk:k< es.length):Row w (some ⟨ba,oa+k* 5,none⟩) (cellsRw es[k]):=by
 have h5:=h.drop (k*5);rw[flatMap_drop (size:=5) (fun _=>rfl)]at h5;have h6:=h5.take 5;rw[List.drop_eq_getElem_cons hk,List.flatMap_cons,List.take_left' (show(cellsRw es[k]).length=5 from rfl)]at h6;exact h6
theorem take_at{α:Type}{l m:List α}{k j:Nat}(h:l.take k=m.take k)(hj:j< k)(h1:j< l.length)(h2:j< m.length):l[j]=m[j]:=by
 have h3:(l.take k)[j]? =(m.take k)[j]?:=by rw[h]
 rw[List.getElem?_take_of_lt hj,List.getElem?_take_of_lt hj,List.getElem?_eq_getElem h1,List.getElem?_eq_getElem h2]at h3;exact Option.some.inj h3
theorem ents_at(es:List RwE){k:Nat}(h:k< es.length)(h2:k< (ents es).length):(ents es)[k]=es[k].1:=List.getElem_map _
theorem match_nd(es fs:List RwE)(a b:Option Addr)(n m c d:Nat)(w:World)(hn:es.length= n)(hm:fs.length= m)(hln:n≤ 4096)(hlm:m≤ 4096)(hc:n≤ c)(hd:m≤ d)(hr:Row w a (es.flatMap cellsRw))(hs:Row w b (fs.flatMap cellsRw))(hy:∀y∈ es,GoodY w y)(hz:∀y∈ fs,GoodY w y)(hmt:∀i (h1:i< (ents es).length) (h2:i< (ents fs).length),(ents es)[i].term=(ents fs)[i].term→(ents es).take (i+1)=(ents fs).take (i+1)):
 Calls Tryz.prog 8 #[.agg #[.int .i64 0,.int .i64 0,.slice a n c],.agg #[.int .i64 0,.int .i64 0,.slice b m d]] w (fun en w'=>en= .returned (.bool true)∧Below w.heap.size w w'):=by
 have HB2:=h_ (bex2 w (cellsRs ⟨0,0,a,n,c⟩) (cellsRs ⟨0,0,b,m,d⟩) 33 33);have HH:=h_ (And.intro hn (And.intro hm (And.intro hc hd)));have HLL:=h_ (And.intro hln hlm);have HR:=h_ (And.intro hr hs);have HY:=h_ (And.intro hy hz);have HMT:=h_ hmt;have hen:(ents es).length=n:= by rw[ents_len,hn]
 have hem:(ents fs).length=m:= by rw[ents_len,hm]
 have HEN:=h_ (And.intro hen hem);have j2:=HB2.2.1.box.cell (j:=2) rfl;have i2:=HB2.2.2.1.box.cell (j:=2) rfl;clear hn hm hc hd hr hs hy hz hmt hen hem;go_enter Tryz.func8,Tryz.ntmps8;go_upto_region 2 with fail;have hq:∃q: Nat,q≤n∧ q≤m∧ (m<n∧ m=q∨ ¬m< n∧n= q):=by
  by_cases h5:m< n
  ·exact⟨m,by omega,Nat.le_refl _,.inl ⟨h5,rfl⟩⟩
  ·exact⟨n,Nat.le_refl _,by omega,.inr ⟨h5,rfl⟩⟩
 obtain⟨q,hq1,hq2,hq3⟩:=hq;have HQ:=h_ (And.intro hq1 hq2);have e1:wrap64 ((q:Int)-1)=(q:Int)-1:= IntWalk.wrap64_in _ o_;rcases hq3 with⟨c1,rfl⟩|⟨c1,rfl⟩
 all_goals
  clear hq1 hq2 hln hlm;go_wp2_with fail;go_loopw [5,6] (fun sv kv wr=>∃(sb:Bool) (k:Nat) (v:Int),sv= .bool sb∧kv= .int .i64 v∧Hid (v=(k:Int)-1∧ k≤n∧ k≤m∧ (sb=false→ ∀j (h1:j< (ents es).length) (h2:j< (ents fs).length),j<k→ (ents es)[j]=(ents fs)[j]))∧Hid (Below w.heap.size w wr)∧Hid (Bex wr w.heap.size (cellsRs ⟨0,0,a,n,c⟩))∧Hid (Bex wr (w.heap.size+1) (cellsRs ⟨0,0,b,m,d⟩))) (fun _ kv _=>(intOf kv+1).toNat)
  case atStart=>exact ⟨true,_,_,rfl,rfl,⟨rfl,HQ.1,HQ.2,fun h5=>by cases h5⟩,HB2.1,HB2.2.1,HB2.2.2.1⟩
  case round=>
   obtain⟨sb,k,v,rfl,rfl,HK,HBv,HX,HZ⟩:=hrel;clear c1;(try clear e1);(try clear j2);(try clear i2);rcases k with _|j
   ·obtain rfl:v= -1:= by have:=HK.1;omega
    go_wp2_with fail;go_ret;exact⟨rfl,HBv.out⟩
   ·obtain rfl:v= (j:Int):=by have:=HK.1;omega
    have hj1:j< es.length:=by have:=HK.2.1;have:=HH.1;omega
    have hj2:j< fs.length:=by have:=HK.2.2.1;have:=HH.2.1;omega
    have hj1e:j< (ents es).length:=by rw[ents_len];exact hj1
    have hj2e:j< (ents fs).length:=by rw[ents_len];exact hj2
    obtain⟨ba,oa,rfl,hEA⟩:=entAt HR.1 hj1;obtain⟨bb,ob,rfl,hEB⟩:=entAt HR.2 hj2;have HCA:=h_ hEA.c0;have HCB:=h_ hEB.c0;have HRA:=h_ (row_one HR.1 hj1);have HRB:=h_ (row_one HR.2 hj2);have HGA:=h_ ((HY.1 _ (List.getElem_mem hj1)).1);have HGB:=h_ ((HY.2 _ (List.getElem_mem hj2)).1);have HTT:Hid (es[j].1.term=fs[j].1.term→∀i (h1:i< (ents es).length) (h2:i< (ents fs).length),i<j+ 1→(ents es)[i]=(ents fs)[i]):=fun h5 i h1 h2 h3=>take_at (HMT j hj1e hj2e (by rw[ents_at es hj1,ents_at fs hj2];exact h5)) h3 h1 h2
    have HEQ:Hid ((ents es)[j]=(ents fs)[j]→es[j].1=fs[j].1):=fun h5=>by rw[ents_at es hj1,ents_at fs hj2]at h5;exact h5
    obtain⟨y,hy⟩:∃y,es[j]=y:= ⟨_,rfl⟩;obtain⟨z,hz⟩:∃z,fs[j]=z:= ⟨_,rfl⟩;rw[hy]at HCA HRA HGA HTT HEQ;rw[hz]at HCB HRB HGB HTT HEQ;have HJE:=h_ (And.intro hj1e hj2e);have HSM:=h_ (fun(hyz:y.1= z.1) (w':World) (hb:Below w.heap.size w w')=>same_one y.1 y.2.1 z.2.1 y.2.2 z.2.2 (some ⟨ba,oa+j* 5,none⟩) (some ⟨bb,ob+j* 5,none⟩) (c-j) (d-j) w' (HGA.below hb) (by rw[hyz];exact HGB.below hb) (HRA.below hb) (by have h5:=HRB.below hb;rw[show(y.1,(z.2.1,z.2.2))=z by rw[hyz]];exact h5) (by have:=HH.2.2.1;have:=HH.1;omega) (by have:=HH.2.2.2;have:=HH.2.1;omega));have f1:j+ 1≤c:= by have:=HH.2.2.1;have:=HH.1;omega
    have f2:j+ 1≤d:= by have:=HH.2.2.2;have:=HH.2.1;omega
    have f3:¬c= j:=o_;have f4:¬d= j:=o_;have f5:j+ 1-j= 1:=o_;have f6:¬c- j=0:= o_;have f7:¬d- j=0:= o_;have f8:IntKind.i64.wrap ((j:Int)+1)=(j:Int)+1:= by have:=HLL.1;have:=HH.1;exact IntWalk.i64_in _ o_
    have f9:wrap64 ((j:Int)-1)=(j:Int)-1:= by have:=HLL.1;have:=HH.1;exact IntWalk.wrap64_in _ o_
    have g1:j< n:=by have:=HK.2.1;omega
    have g2:j< m:=by have:=HK.2.2.1;omega
    have g3:(0:Int)≤(j:Int):=o_;have g4:(0:Int)≤(j:Int)+1:= o_;have g5:(j:Int)+1≤ (c:Int):=o_;have g6:(j:Int)+1≤ (d:Int):=o_;clear hEA hEB hj1 hj2 hy hz;obtain⟨t1,ht1⟩:∃t1,y.1.term=t1:= ⟨_,rfl⟩;obtain⟨t2,ht2⟩:∃t2,z.1.term=t2:= ⟨_,rfl⟩;rw[ht1]at HCA HTT;rw[ht2]at HCB HTT;clear ht1 ht2;go_upto_region 5 with fail;refine wrq (fun l w'=>(w'.cell? ⟨w.heap.size,2,none⟩=some (.slice (some ⟨ba,oa,none⟩) n c)∧w'.cell? ⟨w.heap.size+1,2,none⟩=some (.slice (some ⟨bb,ob,none⟩) m d)∧w'.cell? ⟨ba,oa+j* 5,none⟩=some (.int .i64 t1)∧w'.cell? ⟨bb,ob+j* 5,none⟩=some (.int .i64 t2))) ?_;obtain⟨w6,hwd⟩:∃y,y=World.drew wr:=⟨_,rfl⟩;rw[←hwd];have hb:Below wr.heap.size wr w6:=by rw[hwd];exact b_.drew
    clear hwd;have HB6:=h_ (HBv.trans (hb.mono HBv.size));have HX6:=h_ (HX.next hb);have HZ6:=h_ (HZ.next hb);have HCA6:=h_ (cell_next HB6.out HCA.out);have HCB6:=h_ (cell_next HB6.out HCB.out);clear hb;refine toS ⟨HX6.box.cell (j:=2) rfl,HZ6.box.cell (j:=2) rfl,HCA6.out,HCB6.out⟩ ?_;refine tkq 0 ?_;refine tkq 1 ?_;refine tkq 2 ?_;refine tkq 3 ?_;refine tkq 4 ?_;refine tkq 5 ?_;refine tkq 6 ?_;refine tkq 7 ?_;refine tkq 8 ?_;refine tkq 9 ?_;refine tkq 10 ?_;refine tkq 11 ?_;refine tkq 12 ?_;refine sdq ?_;rcases d9:(t1==t2)with _|_
    ·cases sb with
     |false=>
      have HYZ:Hid (y.1=z.1):=HEQ.out (HK.2.2.2 rfl j HJE.1 HJE.2 (Nat.lt_succ_self j));go_upto_region 7 with fail;refine wrq (fun l w'=>(w'.cell? ⟨w.heap.size,2,none⟩=some (.slice (some ⟨ba,oa,none⟩) n c)∧w'.cell? ⟨w.heap.size+1,2,none⟩=some (.slice (some ⟨bb,ob,none⟩) m d))) ?_;obtain⟨w7,hwd⟩:∃y,y=World.drew w6:=⟨_,rfl⟩;rw[←hwd];have hb:Below w6.heap.size w6 w7:=by rw[hwd];exact b_.drew
      clear hwd;have HB7:=h_ (HB6.trans (hb.mono HB6.size));have HX7:=h_ (HX6.next hb);have HZ7:=h_ (HZ6.next hb);clear hb;refine toS ⟨HX7.box.cell (j:=2) rfl,HZ7.box.cell (j:=2) rfl⟩ ?_;refine tkq 0 ?_;refine tkq 1 ?_;refine tkq 2 ?_;refine tkq 3 ?_;refine tkq 4 ?_;refine tkq 5 ?_;refine tkq 6 ?_;refine tkq 7 ?_;refine tkq 8 ?_;refine tkq 9 ?_;refine tkq 10 ?_;refine tkq 11 ?_;refine tkq 12 ?_;refine tkq 13 ?_;refine tkq 14 ?_;refine soq 15 (fun K hK=> ?_);go_simp;go_at_call 25
      with_reducible refine(HSM.out HYZ.out _ HB7.out).mono ?_
      rintro en w8 ⟨rfl,hb⟩;have HB8:=h_ (HB7.trans (hb.mono HB7.size));have HX8:=h_ (HX7.next hb);have HZ8:=h_ (HZ7.next hb);clear hb;refine hK.out _ _ ⟨HX8.box.cell (j:=2) rfl,HZ8.box.cell (j:=2) rfl⟩ ?_;clear hK K;refine tkq 16 ?_;refine tkq 17 ?_;refine sdq ?_;go_wp2_with fail;go_roundw
      case rel=>exact ⟨false,j,_,rfl,rfl,⟨(by first|rfl| exact f9),by omega,by omega,fun _ i h1 h2 h3=>HK.2.2.2 rfl i h1 h2 o_⟩,HB8.out,HX8.out,HZ8.out⟩
      case measure=>(try rw[f9]);simp[intOf]
     |true=>
      go_upto_region 7 with fail;refine wrq (fun l w'=>(w'.cell? ⟨w.heap.size,2,none⟩=some (.slice (some ⟨ba,oa,none⟩) n c)∧w'.cell? ⟨w.heap.size+1,2,none⟩=some (.slice (some ⟨bb,ob,none⟩) m d))) ?_;obtain⟨w7,hwd⟩:∃y,y=World.drew w6:=⟨_,rfl⟩;rw[←hwd];have hb:Below w6.heap.size w6 w7:=by rw[hwd];exact b_.drew
      clear hwd;have HB7:=h_ (HB6.trans (hb.mono HB6.size));have HX7:=h_ (HX6.next hb);have HZ7:=h_ (HZ6.next hb);clear hb;refine toS ⟨HX7.box.cell (j:=2) rfl,HZ7.box.cell (j:=2) rfl⟩ ?_;refine tkq 0 ?_;refine tkq 1 ?_;refine tkq 2 ?_;refine tkq 3 ?_ (v:=undef) (hy:=Or.inr ⟨by rfl,rfl⟩);refine tkq 4 ?_ (v:=undef) (hy:=Or.inr ⟨by rfl,rfl⟩);refine tkq 5 ?_ (v:=undef) (hy:=Or.inr ⟨by rfl,rfl⟩);refine tkq 6 ?_ (v:=undef) (hy:=Or.inr ⟨by rfl,rfl⟩);refine tkq 7 ?_ (v:=undef) (hy:=Or.inr ⟨by rfl,rfl⟩);refine tkq 8 ?_ (v:=undef) (hy:=Or.inr ⟨by rfl,rfl⟩);refine tkq 9 ?_ (v:=undef) (hy:=Or.inr ⟨by rfl,rfl⟩);refine tkq 10 ?_ (v:=undef) (hy:=Or.inr ⟨by rfl,rfl⟩);refine tkq 11 ?_ (v:=undef) (hy:=Or.inr ⟨by rfl,rfl⟩);refine tkq 12 ?_ (v:=undef) (hy:=Or.inr ⟨by rfl,rfl⟩);refine tkq 13 ?_ (v:=undef) (hy:=Or.inr ⟨by rfl,rfl⟩);refine tkq 14 ?_ (v:=undef) (hy:=Or.inr ⟨by rfl,rfl⟩);refine tkq 15 ?_ (v:=undef) (hy:=Or.inr ⟨by rfl,rfl⟩);refine tkq 16 ?_ (v:=undef) (hy:=Or.inr ⟨by rfl,rfl⟩);refine tkq 17 ?_;refine sdq ?_;go_wp2_with fail;go_roundw
      case rel=>exact ⟨true,j,_,rfl,rfl,⟨(by first|rfl| exact f9),by omega,by omega,fun h5=>by cases h5⟩,HB7.out,HX7.out,HZ7.out⟩
      case measure=>(try rw[f9]);simp[intOf]
    ·have HT9:Hid (t1=t2):=by show _=_;simpa using d9
     have HYZ:Hid (y.1=z.1):=HEQ.out (HTT HT9.out j HJE.1 HJE.2 (Nat.lt_succ_self j));go_upto_region 7 with fail;refine wrq (fun l w'=>(w'.cell? ⟨w.heap.size,2,none⟩=some (.slice (some ⟨ba,oa,none⟩) n c)∧w'.cell? ⟨w.heap.size+1,2,none⟩=some (.slice (some ⟨bb,ob,none⟩) m d))) ?_;obtain⟨w7,hwd⟩:∃y,y=World.drew w6:=⟨_,rfl⟩;rw[←hwd];have hb:Below w6.heap.size w6 w7:=by rw[hwd];exact b_.drew
     clear hwd;have HB7:=h_ (HB6.trans (hb.mono HB6.size));have HX7:=h_ (HX6.next hb);have HZ7:=h_ (HZ6.next hb);clear hb;refine toS ⟨HX7.box.cell (j:=2) rfl,HZ7.box.cell (j:=2) rfl⟩ ?_;refine tkq 0 ?_;refine tkq 1 ?_;refine tkq 2 ?_;refine tkq 3 ?_;refine tkq 4 ?_;refine tkq 5 ?_;refine tkq 6 ?_;refine tkq 7 ?_;refine tkq 8 ?_;refine tkq 9 ?_;refine tkq 10 ?_;refine tkq 11 ?_;refine tkq 12 ?_;refine tkq 13 ?_;refine tkq 14 ?_;refine soq 15 (fun K hK=> ?_);go_simp;go_at_call 25
     with_reducible refine(HSM.out HYZ.out _ HB7.out).mono ?_
     rintro en w8 ⟨rfl,hb⟩;have HB8:=h_ (HB7.trans (hb.mono HB7.size));have HX8:=h_ (HX7.next hb);have HZ8:=h_ (HZ7.next hb);clear hb;refine hK.out _ _ ⟨HX8.box.cell (j:=2) rfl,HZ8.box.cell (j:=2) rfl⟩ ?_;clear hK K;refine tkq 16 ?_;refine tkq 17 ?_;refine sdq ?_;go_wp2_with fail;go_roundw
     case rel=>exact ⟨false,j,_,rfl,rfl,⟨(by first|rfl| exact f9),by omega,by omega,fun _ i h1 h2 h3=>HTT.out HT9.out i h1 h2 o_⟩,HB8.out,HX8.out,HZ8.out⟩
     case measure=>(try rw[f9]);simp[intOf]
end Go.Proofs.YtoeofkcpclfnhaaGreat
