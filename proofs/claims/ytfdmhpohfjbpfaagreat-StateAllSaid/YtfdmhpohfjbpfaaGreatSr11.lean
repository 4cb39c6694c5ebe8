import Derived.Test.YtfdmhpohfjbpfaaGreatSr04
set_option linter.unusedVariables false
set_option linter.unusedSimpArgs false
namespace Go.Proofs.YtfdmhpohfjbpfaaGreat
open Go.ChangeShapes Go.WideShapes Go.ChangeAt Go.RowKit
set_option maxRecDepth 100000
set_option maxHeartbeats 16000000
theorem VC {P:Prop}(h:P:=by
 go_roundw
 case rel=>exact ⟨k+1,a2,c2,by omega,by go_num,by rw[HF.out];simp,by rw[HF.out,List.length_append,List.flatMap_append];simpa using hown2,hb2⟩
 case measure=>simp [intOf];omega):P:=h
theorem Y1 {P:Prop}(h:P:=by
 have HF:=h_ (HN (by rw[Wa.out];exact congrArg (fun b=> !b) SH.out));go_wp2;go_roundw
 case rel=>exact ⟨k+1,a',c',by omega,by go_num,by rw[HF.out],by rw[HF.out];exact hown,hb⟩
 case measure=>simp [intOf];omega):P:=h
theorem Ey(ts:List aj)(outs:List Int)(a b:Option Addr)(n c m d:Nat)(w:World)(hn:ts.length= n)(hm:outs.length= m)(hl:ts.length≤ 900)(hlo:m≤ 1000)(hc:a= none→c= 0)(hnc:n≤ c)(hr:dK w a ts)(hro:Row w b (outs.map (Value.int .i64))):
 Calls Tryz.prog 140 (vs2 a n c b m d) w (KI w a (jB ts outs)):=by
 subst hn;subst hm;have hmax:ts.length≤ maxLen:=bD o_;have HS:Hid (jB ts outs=if aZ 0 ts=true then ts.filter (fun x=> !kT outs x)else ts):=rfl;generalize jB ts outs=res at HS ⊢;cases h1:aZ 0 ts with
 |false=>
  have H1:=h_ h1;have HO:Hid (res=ts):=by rw[HS.out,if_neg (by rw[h1];simp)];exact rfl
  clear h1 HS;go_enter Tryz.func140,Tryz.ntmps140;go_wp2_with(first|(go_at_call 53;((with_reducible refine(cI ts a _ _ _ rfl hmax (hr.below aH)).mono ?_);rw[H1.out];rintro e w3 ⟨rfl,hb3⟩)));go_returns;exact⟨a,c,by rw[HO.out];rfl,by rw[HO.out];exact hnc,hc,cg.self _ _,by rw[HO.out];exact hr.below aH,aH⟩
 |true=>
  have H1:=h_ h1;have yG:Hid (∀x∈ ts,1≤x.id∧ x.id≤16):=fun x hx=>by
   have h2:=(cJ.1 h1).1 x hx;have h3:=h2.2;unfold yq at h3;simp only[Bool.and_eq_true,decide_eq_true_eq]at h3;exact⟨by omega,h3.1.1.1⟩
  have HO:Hid (res=ts.filter (fun x=> !kT outs x)):=by rw[HS.out,if_pos h1];exact rfl
  clear h1 HS;generalize hq:(fun x=> !kT outs x)=q at HO;have HQ:=h_ hq;clear hq;go_enter Tryz.func140,Tryz.ntmps140;go_wp2_with(first|(go_at_call 53;((with_reducible refine(cI ts a _ _ _ rfl hmax (hr.below aH)).mono ?_);rw[H1.out];rintro e w3 ⟨rfl,hb3⟩)));go_loopw [5,6] (fun out i wr=>∃k: Nat,∃a' c',k≤ts.length∧ i= .int .i64 k∧out= .slice a' ((ts.take k).filter q).length c'∧wr.ownsRow w.heap.size 75 5 (.slice a' ((ts.take k).filter q).length c') ((ts.take k).filter q).length (((ts.take k).filter q).flatMap aj.cells)∧Below w.heap.size w wr) (fun _ i _=>ts.length- (intOf i).toNat)
  case atStart=>exact ⟨0,none,0,by omega,rfl,rfl,World.ownsRow_nil _ _ _ _,hb3⟩
  case round=>
   obtain⟨k,a',c',hk,rfl,rfl,hown,hb⟩:=hrel;by_cases hlt:k< ts.length
   ·obtain⟨b1,o1,rfl,hcs⟩:=hr.at hlt;obtain⟨h0,h1,h2,h3,h4⟩:=hcs _ hb;obtain⟨D2,Rf⟩:=yG.out ts[k] (List.getElem_mem hlt);clear hcs;have uB:Hid (ts.take (k+1)=ts.take k++[ts[k]]):=List.take_succ_eq_append_getElem hlt;have hfl:((ts.take k).filter q).length≤k:= by
     have:=List.length_filter_le q (ts.take k);rw[List.length_take]at this;omega
    have Wa:Hid (q ts[k]= !(ts[k].gone&&decide (qy outs ts[k].id≤0))):=by show _=_;rw[←HQ.out];rfl
    have HN:Hid (q ts[k]=false→ (ts.take (k+1)).filter q=(ts.take k).filter q):=fun h=>by rw[uB.out,List.filter_append];simp[h]
    have HY:Hid (q ts[k]=true→ (ts.take (k+1)).filter q=(ts.take k).filter q++[ts[k]]):=fun h=>by rw[uB.out,List.filter_append];simp[h]
    generalize hx:ts[k]=x at h0 h1 h2 h3 h4 D2 Rf Wa HN HY;clear hx uB;obtain⟨id,aK,aq,bucket,gone⟩:=x;simp only at h0 h1 h2 h3 h4 D2 Rf;by_cases FL:(outs.length:Int)<id
    ·have afU:decide (id-1< (outs.length:Int))=false:= decide_eq_false o_;cases gone with
     |false=>
      have SH:Hid ((false&&decide (qy outs id≤0))=false):=rfl;have HF:=h_ (HY (by rw[Wa.out];exact congrArg (fun b=> !b) SH.out));go_wp2_with(at_builtin;refine eX eI rfl _ _ rfl w.heap.size _ ((ts.take k).filter q).length _ rfl (hown.alloc _) (some ⟨wr.heap.size,0,none⟩) 1 1 (aj.cells ⟨id,aK,aq,bucket,false⟩) rfl rfl (Row.new _ _ _ _) (by intro u hu;simp at hu;rcases hu with rfl|rfl| rfl|rfl| rfl<;>rfl) o_ (by have:=hb.size;simp;omega) ?_;intro a2 c2 w2 hown2 hg2;have hb2:=Below.app (hb.alloc hb.size _) (hown.alloc _) hg2 (by have:=hb.size;simp;omega);clear hg2 h0 h1 h2 h3 h4);exact VC
     |true=>
      have SH:Hid ((true&&decide (qy outs id≤0))=true):=by show _=_;rw[CZ FL];rfl
      exact Y1
    ·obtain⟨j,hj,hj2,hj3⟩:=Gt (outs:=outs) (id:=id) o_ o_;obtain⟨b5,o5,rfl,hcell⟩:=Row.jH hro (k:=j) (by rw[List.getElem?_map,hj3];rfl);have hcl:=hcell _ hb;obtain rfl:id= j+1:= o_;generalize hov:qy outs (j+1)=ov at hcl Wa;clear hcell hj3 hov hj2;cases gone with
     |false=>
      have SH:Hid ((false&&decide (ov≤0))=false):=rfl;have HF:=h_ (HY (by rw[Wa.out];exact congrArg (fun b=> !b) SH.out));go_wp2_with(at_builtin;refine eX eI rfl _ _ rfl w.heap.size _ ((ts.take k).filter q).length _ rfl (hown.alloc _) (some ⟨wr.heap.size,0,none⟩) 1 1 (aj.cells ⟨j+1,aK,aq,bucket,false⟩) rfl rfl (Row.new _ _ _ _) (by intro u hu;simp at hu;rcases hu with rfl|rfl| rfl|rfl| rfl<;>rfl) o_ (by have:=hb.size;simp;omega) ?_;intro a2 c2 w2 hown2 hg2;have hb2:=Below.app (hb.alloc hb.size _) (hown.alloc _) hg2 (by have:=hb.size;simp;omega);clear hg2 h0 h1 h2 h3 h4);exact VC
     |true=>
      by_cases hov:ov≤ 0
      ·have SH:Hid ((true&&decide (ov≤0))=true):=by show _=_;rw[decide_eq_true hov];rfl
       have hgt:decide (0<ov)=false:= decide_eq_false o_;exact Y1
      ·have SH:Hid ((true&&decide (ov≤0))=false):=by show _=_;rw[decide_eq_false hov];rfl
       have hgt:decide (0<ov)=true:= decide_eq_true o_;have HF:=h_ (HY (by rw[Wa.out];exact congrArg (fun b=> !b) SH.out));go_wp2_with(at_builtin;refine eX eI rfl _ _ rfl w.heap.size _ ((ts.take k).filter q).length _ rfl (hown.alloc _) (some ⟨wr.heap.size,0,none⟩) 1 1 (aj.cells ⟨j+1,aK,aq,bucket,true⟩) rfl rfl (Row.new _ _ _ _) (by intro u hu;simp at hu;rcases hu with rfl|rfl| rfl|rfl| rfl<;>rfl) o_ (by have:=hb.size;simp;omega) ?_;intro a2 c2 w2 hown2 hg2;have hb2:=Below.app (hb.alloc hb.size _) (hown.alloc _) hg2 (by have:=hb.size;simp;omega);clear hg2 h0 h1 h2 h3 h4);exact VC
   ·have HT:Hid ((ts.take k).filter q=ts.filter q):=by show _=_;rw[List.take_of_length_le o_]
    go_wp2;go_returns;obtain⟨_,_,hv,hle,_,hnone⟩:=eN hown;simp only[Value.slice.injEq]at hv;obtain⟨rfl,_,rfl⟩:=hv;exact⟨a',c',by rw[HO.out,←HT.out];rfl,by rw[HO.out,←HT.out];exact hle,hnone,(cg.own hown n_).trans' _,by rw[HO.out,←HT.out];exact jO hown,hb⟩
end Go.Proofs.YtfdmhpohfjbpfaaGreat
