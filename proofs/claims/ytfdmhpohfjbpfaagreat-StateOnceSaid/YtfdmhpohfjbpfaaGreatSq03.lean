import Derived.Deep.RegionHeld3
import Derived.Deep.DeepMust
import Derived.Test.YtfdmhpohfjbpfaaGreatSq02
set_option linter.unusedVariables false
set_option linter.unusedSimpArgs false
namespace Go.Proofs.YtfdmhpohfjbpfaaGreat
open Go.ChangeShapes Go.WideShapes Go.ChangeAt Go.RowKit
set_option maxRecDepth 100000
theorem withoutL_le (id:Int) (ts:List Tenant):(withoutL id ts).length≤ts.length:= by
 unfold withoutL;split
 ·simp;omega
 ·exact Nat.le_refl _
theorem putAt_le (x:Tenant) (ts:List Tenant):putAt x ts≤ts.length:= by
 unfold putAt;split
 ·rename_i k h;exact Nat.le_of_lt (List.findIdx?_eq_some_iff_getElem.1 h).1
 ·exact Nat.le_refl _
theorem xcells_at {w:World} {x:Tenant}:∀w',Below (w.alloc (.cells #[.int .i64 x.id,.int .i64 x.rate,.int .i64 x.burst,.int .i64 x.bucket,.bool x.gone] 75)).heap.size (w.alloc (.cells #[.int .i64 x.id,.int .i64 x.rate,.int .i64 x.burst,.int .i64 x.bucket,.bool x.gone] 75)) w'→
 w'.cell? ⟨w.heap.size,0,none⟩=some (.int .i64 x.id)∧w'.cell? ⟨w.heap.size,1,none⟩=some (.int .i64 x.rate)∧w'.cell? ⟨w.heap.size,2,none⟩=some (.int .i64 x.burst)∧w'.cell? ⟨w.heap.size,3,none⟩=some (.int .i64 x.bucket)∧w'.cell? ⟨w.heap.size,4,none⟩=some (.bool x.gone):=by
 intro w' hb
 have h:=fun j=>(hb.cell (p:=⟨w.heap.size,j,none⟩) (by simp)).trans (World.cell?_alloc_at _ _ _ j rfl)
 exact⟨h 0,h 1,h 2,h 3,h 4⟩
set_option maxHeartbeats 1000000 in
theorem with_any (ts:List Tenant) (a:Option Addr) (n c:Nat) (x:Tenant) (w:World) (hn:ts.length= n) (hl:ts.length≤ 1000) (hc:a= none→c= 0) (hnc:n≤ c) (hr:TRow w a ts):
 Calls Tryz.prog 116 #[.slice a n c,x.agg] w (RetT w none (withL x ts)):=by
 subst hn
 have hx:=xcells_at (w:=w) (x:=x)
 have HX:=Lib.hid hx
 clear hx
 have hle:=withoutL_le x.id ts
 have hle2:=putAt_le x (withoutL x.id ts)
 have hr1:TRow (w.alloc (.cells #[.int .i64 x.id,.int .i64 x.rate,.int .i64 x.burst,.int .i64 x.bucket,.bool x.gone] 75)) a ts:=Row.alloc hr _
 have HW:Hid (withL x ts=(withoutL x.id ts).take (putAt x (withoutL x.id ts))++x:: (withoutL x.id ts).drop (putAt x (withoutL x.id ts))):=rfl
 generalize withL x ts=out at HW ⊢
 generalize hts:withoutL x.id ts=l2 at hle hle2 HW
 have HTS:=Lib.hid hts
 clear hts
 obtain⟨r,q,hidx,hput,hrq⟩:∃(r:Int) (q:Nat),idx (fun y=>decide (x.id<y.id)) l2=r∧ putAt x l2=q∧ (r=q∨ (r= -1∧ q=l2.length)):=by
  unfold idx putAt
  cases hf:l2.findIdx? (fun y=>decide (x.id<y.id))with
  |none=> exact⟨-1,l2.length,rfl,rfl,.inr ⟨rfl,rfl⟩⟩
  |some k=>exact ⟨k,k,rfl,rfl,.inl rfl⟩
 rw[hput]at hle2 HW
 have HIDX:=Lib.hid hidx
 clear hput hidx
 have hmid:Hid (∀w2 a2 c2,l2.length≤c2→ TRow w2 a2 l2→(∀w',Below w2.heap.size w2 w'→w'.cell? ⟨w.heap.size,0,none⟩=some (.int .i64 x.id))→
  Calls Tryz.prog 162 #[.slice a2 l2.length c2,.func (.func 163) #[] #[.pointer (some ⟨w.heap.size,0,none⟩)]] w2 fun e w'=>e= .returned (.int .i64 r)∧Below w2.heap.size w2 w'):=by
  intro w2 a2 c2 h1 h2 h3
  have:=find_any l2 a2 _ c2 163 #[.pointer (some ⟨w.heap.size,0,none⟩)] (fun y=>decide (x.id<y.id)) w2 rfl (le_maxLen (by omega)) h2 enter_with1
   (fun t _ w' hb=>with1_any t x.id _ w' (h3 w' hb))
  rw[HIDX.out]at this
  exact this
 rcases hrq with rfl|⟨rfl,rfl⟩
 ·go_enter Tryz.func116,Tryz.ntmps116
  go_wp2_with(first|(go_at_call 117;((with_reducible refine(without_any ts _ _ _ _ _ rfl hl hc hnc hr1).mono ?_);rw[HTS.out];rintro e w2 ⟨a2,c2,rfl,hnc2,_,_,hr2,hb2⟩;obtain⟨x0,x1,x2,x3,x4⟩:=HX.out _ hb2))|(go_at_call 162;((with_reducible refine(hmid.out _ _ _ hnc2 hr2 (fun w' hb=>(HX.out _ (hb2.trans (hb.mono hb2.size))).1)).mono ?_);rintro e w3 ⟨rfl,hb3⟩;have hb23:=hb2.trans (hb3.mono hb2.size);obtain⟨x0,x1,x2,x3,x4⟩:=HX.out _ hb23)))
  have hr3:TRow w3 a2 l2:=hr2.below hb3
  have k0:(0:Int)≤(q:Int):=by omega
  have k1:(q:Int)≤(c2:Int):=by omega
  have k3:(q:Int)≤(l2.length:Int):=by omega
  go_region_held3 (fun w'=>w'.cell? ⟨w.heap.size,0,none⟩=some (.int .i64 x.id)∧w'.cell? ⟨w.heap.size,1,none⟩=some (.int .i64 x.rate)∧w'.cell? ⟨w.heap.size,2,none⟩=some (.int .i64 x.burst)∧w'.cell? ⟨w.heap.size,3,none⟩=some (.int .i64 x.bucket)∧w'.cell? ⟨w.heap.size,4,none⟩=some (.bool x.gone)) ((refine HX.out _ ?_;first|exact hb23|exact hb23.drew|exact (hb23.alloc hb23.size _).drew|exact hb34|exact hb35))
   (first|(refine step_can el_tenants rfl (.tmp 20) (.tmp 22) rfl w3.heap.size a2 q q ((l2.take q).flatMap Tenant.cells) rfl (Can.drew (Can.full (Row.alloc (hr3.take q) _) (by rw[TRow.length,List.length_take];congr 1;omega) (le_maxLen (by omega)))) (some ⟨w3.heap.size,0,none⟩) 1 1 x.cells rfl rfl (Row.drew (Row.new _ _ _ _)) (by intro u hu;simp at hu;rcases hu with rfl|rfl| rfl|rfl| rfl<;>rfl) (by omega) (by simp) ?_;intro a4 c4 w4 hcan4 _ hb4 hown4;have HO4:=Lib.hid hown4;clear hown4;have hb34:=((hb23.alloc hb23.size (.cells #[.int .i64 x.id,.int .i64 x.rate,.int .i64 x.burst,.int .i64 x.bucket,.bool x.gone] 75)).drew).trans (hb4.mono hb23.size))|(go_must (refine step_can el_tenants rfl (.tmp 23) (.tmp 26) rfl w3.heap.size a4 (q+1) c4 _ rfl hcan4 _ (l2.length-q) _ ((l2.drop q).flatMap Tenant.cells) rfl (by rw[TRow.length,List.length_drop]) (TRow.tailO (hr3.below (((Below.refl _ _).alloc (Nat.le_refl _) (.cells #[.int .i64 x.id,.int .i64 x.rate,.int .i64 x.burst,.int .i64 x.bucket,.bool x.gone] 75)).drew.trans hb4)) hnc2) (tcells_one _) (by omega) (by have:=hb4.size;simp at this;omega) ?_;intro a5 c5 w5 hcan5 _ hb5 hown5;have HO5:=Lib.hid hown5;clear hown5;have hb35:=hb34.trans (hb5.mono hb23.size))))
  clear k0 k1 k3
  generalize(if c2=q then a2 else Option.map (fun x=>x.add (q*5)) a2)=ad
  have HL:Hid (∀m,m=l2.length- q→q+ 1+m= out.length):=by intro m hm;subst hm;rw[HW.out];simp;omega
  go_wp2_with fail
  go_returns
  have hle3:w.heap.size≤ w3.heap.size:=by have:=hb23.size;simp at this;omega
  have hnear:Near w.heap.size none a5:=by
   by_cases h0:0< l2.length-q
   ·exact Near.own (HO5.out.1 h0) hle3
   ·rw[(HO5.out.2 (by omega)).1];exact Near.own (HO4.out.1 (by omega)) hle3
  refine⟨a5,c5,by rw[←HL.out (l2.length-q) rfl];rfl,by rw[←HL.out (l2.length-q) rfl];exact hcan5.le,hcan5.none (by decide),hnear,?_,(((Below.refl _ _).alloc (Nat.le_refl _) _).trans (hb35.mono (by simp)))⟩
  have h5:=hcan5.row
  have e:(l2.take q).flatMap Tenant.cells++x.cells++ (l2.drop q).flatMap Tenant.cells=out.flatMap Tenant.cells:=by
   rw[HW.out,List.flatMap_append,List.flatMap_cons,List.append_assoc]
  rw[e]at h5
  exact h5
 ·go_enter Tryz.func116,Tryz.ntmps116
  go_wp2_with(first|(go_at_call 117;((with_reducible refine(without_any ts _ _ _ _ _ rfl hl hc hnc hr1).mono ?_);rw[HTS.out];rintro e w2 ⟨a2,c2,rfl,hnc2,_,_,hr2,hb2⟩;obtain⟨x0,x1,x2,x3,x4⟩:=HX.out _ hb2))|(go_at_call 162;((with_reducible refine(hmid.out _ _ _ hnc2 hr2 (fun w' hb=>(HX.out _ (hb2.trans (hb.mono hb2.size))).1)).mono ?_);rintro e w3 ⟨rfl,hb3⟩;have hb23:=hb2.trans (hb3.mono hb2.size);obtain⟨x0,x1,x2,x3,x4⟩:=HX.out _ hb23)))
  have hr3:TRow w3 a2 l2:=hr2.below hb3
  have k0:(0:Int)≤(l2.length:Int):=by omega
  have k1:(l2.length:Int)≤(c2:Int):=by omega
  have k3:(l2.length:Int)≤(l2.length:Int):=by omega
  go_region_held3 (fun w'=>w'.cell? ⟨w.heap.size,0,none⟩=some (.int .i64 x.id)∧w'.cell? ⟨w.heap.size,1,none⟩=some (.int .i64 x.rate)∧w'.cell? ⟨w.heap.size,2,none⟩=some (.int .i64 x.burst)∧w'.cell? ⟨w.heap.size,3,none⟩=some (.int .i64 x.bucket)∧w'.cell? ⟨w.heap.size,4,none⟩=some (.bool x.gone)) ((refine HX.out _ ?_;first|exact hb23|exact hb23.drew|exact (hb23.alloc hb23.size _).drew|exact hb34|exact hb35))
   (first|(refine step_can el_tenants rfl (.tmp 20) (.tmp 22) rfl w3.heap.size a2 l2.length l2.length ((l2.take l2.length).flatMap Tenant.cells) rfl (Can.drew (Can.full (Row.alloc (hr3.take l2.length) _) (by rw[TRow.length,List.length_take];simp) (le_maxLen (by omega)))) (some ⟨w3.heap.size,0,none⟩) 1 1 x.cells rfl rfl (Row.drew (Row.new _ _ _ _)) (by intro u hu;simp at hu;rcases hu with rfl|rfl| rfl|rfl| rfl<;>rfl) (by omega) (by simp) ?_;intro a4 c4 w4 hcan4 _ hb4 hown4;have HO4:=Lib.hid hown4;clear hown4;have hb34:=((hb23.alloc hb23.size (.cells #[.int .i64 x.id,.int .i64 x.rate,.int .i64 x.burst,.int .i64 x.bucket,.bool x.gone] 75)).drew).trans (hb4.mono hb23.size))|(go_must (refine step_can el_tenants rfl (.tmp 23) (.tmp 26) rfl w3.heap.size a4 (l2.length+1) c4 _ rfl hcan4 _ 0 _ ((l2.drop l2.length).flatMap Tenant.cells) rfl (by rw[List.drop_length];first|done| rfl) (TRow.tailO (hr3.below (((Below.refl _ _).alloc (Nat.le_refl _) (.cells #[.int .i64 x.id,.int .i64 x.rate,.int .i64 x.burst,.int .i64 x.bucket,.bool x.gone] 75)).drew.trans hb4)) hnc2) (tcells_one _) (by omega) (by have:=hb4.size;simp at this;omega) ?_;intro a5 c5 w5 hcan5 _ hb5 hown5;have HO5:=Lib.hid hown5;clear hown5;have hb35:=hb34.trans (hb5.mono hb23.size))))
  clear k0 k1 k3
  generalize(if c2=l2.length then a2 else Option.map (fun x=>x.add (l2.length*5)) a2)=ad
  have HL:Hid (∀m,m=l2.length- l2.length→l2.length+ 1+m= out.length):=by intro m hm;subst hm;rw[HW.out];simp
  go_wp2_with fail
  go_returns
  have hle3:w.heap.size≤ w3.heap.size:=by have:=hb23.size;simp at this;omega
  have hnear:Near w.heap.size none a5:=by
   rw[(HO5.out.2 (by simp)).1];exact Near.own (HO4.out.1 (by omega)) hle3
  refine⟨a5,c5,by rw[←HL.out 0 (by simp)];rfl,by rw[←HL.out 0 (by simp)];exact hcan5.le,hcan5.none (by decide),hnear,?_,(((Below.refl _ _).alloc (Nat.le_refl _) _).trans (hb35.mono (by simp)))⟩
  have h5:=hcan5.row
  have e:(l2.take l2.length).flatMap Tenant.cells++x.cells++ (l2.drop l2.length).flatMap Tenant.cells=out.flatMap Tenant.cells:=by
   rw[HW.out,List.flatMap_append,List.flatMap_cons,List.append_assoc]
  rw[e]at h5
  exact h5
def RetTA (w:World) (src:Option Addr) (r:List Tenant×Ans) (e:Ending) (w':World):Prop:=
 ∃a c,e= .returned (.tuple #[.slice a r.1.length c,r.2.agg])∧r.1.length≤ c∧(a=none→ c=0)∧Near w.heap.size src a∧TRow w' a r.1∧Below w.heap.size w w'
def RetTF (w:World) (r:Tenant× Bool) (e:Ending) (w':World):Prop:= e= .returned (.tuple #[r.1.agg,.bool r.2])∧Below w.heap.size w w'
def RetA (w:World) (r:Ans) (e:Ending) (w':World):Prop:= e= .returned r.agg∧Below w.heap.size w w'
theorem set5 {B:Nat} {w w':World} (h:Below B w w') {g:Nat} (hg:B≤ g) (v0 v1 v2 v3 v4:Value):
 Below B w (((((w'.setCell ⟨g,0,none⟩ v0).setCell ⟨g,1,none⟩ v1).setCell ⟨g,2,none⟩ v2).setCell ⟨g,3,none⟩ v3).setCell ⟨g,4,none⟩ v4):=
 ((((h.setCell hg _).setCell hg _).setCell hg _).setCell hg _).setCell hg _
theorem Row.set5 {w:World} {a:Option Addr} {xs:List Value} (h:Row w a xs) {g:Nat} (hg:∀b o s,a=some ⟨b,o,s⟩→b≠ g) (v0 v1 v2 v3 v4:Value):
 Row (((((w.setCell ⟨g,0,none⟩ v0).setCell ⟨g,1,none⟩ v1).setCell ⟨g,2,none⟩ v2).setCell ⟨g,3,none⟩ v3).setCell ⟨g,4,none⟩ v4) a xs:=
 ((((h.setOther hg _).setOther hg _).setOther hg _).setOther hg _).setOther hg _
theorem Near.ne {B g:Nat} {a:Option Addr} (h:Near B none a) (hg:g< B):∀b o s,a=some ⟨b,o,s⟩→b≠ g:=fun b o s ha=>by
 rcases h b o s ha with h1|⟨_,_,h1⟩
 ·omega
 ·cases h1
theorem pfind_any (ts:List Tenant) (a:Option Addr) (n c:Nat) (id:Int) (w:World) (hn:ts.length= n) (hl:ts.length≤ maxLen) (hr:TRow w a ts):
 Calls Tryz.prog 77 #[.slice a n c,.int .i64 id] w (RetTF w (findT ts id)):=by
 subst hn
 have hl2:=lt_maxLen hl
 cases hf:ts.findIdx? (fun x=>x.id== id)with
 |none=>
  have HP:Hid (idx (fun x=>x.id== id) ts= -1):=by show idx _ _=_;unfold idx;rw[hf]
  have HW:Hid (findT ts id=(zeroT,false)):=by show findT _ _=_;unfold findT;rw[hf]
  clear hf
  go_enter Tryz.func77,Tryz.ntmps77
  go_wp2_with(go_at_call 138;((with_reducible refine(place_any ts _ _ _ _ _ rfl hl (Row.alloc hr _)).mono ?_);rw[HP.out];rintro e w2 ⟨rfl,hb⟩;have hcl:=own_cells hb;have hfz:=own_frozen hb))
  (try simp only[Exit.inBlock,Exit.then])
  refine bodyPost_ret (v:= .tuple #[zeroT.agg,.bool false]) (by simp[results,Tryz.results77,go_sem,hcl,zeroT]) rfl ?_
  exact⟨by rw[HW.out],(((Below.refl _ _).alloc (Nat.le_refl _) _).trans (hb.mono (by simp))).setCell (Nat.le_refl _) _|>.setCell (Nat.le_refl _) _|>.setCell (Nat.le_refl _) _|>.setCell (Nat.le_refl _) _|>.setCell (Nat.le_refl _) _⟩
 |some k=>
  have hk:k< ts.length:=(List.findIdx?_eq_some_iff_getElem.1 hf).1
  have HP:Hid (idx (fun x=>x.id== id) ts=(k:Int)):=by show idx _ _=_;unfold idx;rw[hf]
  have HW:Hid (findT ts id=if tensOk 0 ts then(ts[k]?.getD zeroT,true)else(zeroT,false)):=by show findT _ _=_;unfold findT;rw[hf]
  clear hf
  obtain⟨b,o,rfl,hcs⟩:=hr.at hk
  have HCS:=Lib.hid hcs
  clear hcs
  cases ht:tensOk 0 ts with
  |false=>
   have HT:=Lib.hid ht
   clear ht
   go_enter Tryz.func77,Tryz.ntmps77
   go_wp2_with(first|(go_at_call 138;((with_reducible refine(place_any ts _ _ _ _ _ rfl hl (Row.alloc hr _)).mono ?_);rw[HP.out];rintro e w2 ⟨rfl,hb⟩))|(go_at_call 76;((with_reducible refine(check_any ts _ _ _ _ rfl hl ((Row.alloc hr _).below hb)).mono ?_);rw[HT.out];rintro e w3 ⟨rfl,hb3⟩;have hb4:=hb.trans (hb3.mono hb.size);have hcl:=own_cells hb4;have hfz:=own_frozen hb4)))
   (try simp only[Exit.inBlock,Exit.then])
   refine bodyPost_ret (v:= .tuple #[zeroT.agg,.bool false]) (by simp[results,Tryz.results77,go_sem,hcl,zeroT]) rfl ?_
   exact⟨by rw[HW.out,HT.out];rfl,(((Below.refl _ _).alloc (Nat.le_refl _) _).trans (hb4.mono (by simp))).setCell (Nat.le_refl _) _|>.setCell (Nat.le_refl _) _|>.setCell (Nat.le_refl _) _|>.setCell (Nat.le_refl _) _|>.setCell (Nat.le_refl _) _⟩
  |true=>
   have HT:=Lib.hid ht
   clear ht
   have hx:ts[k]? =some ts[k]:=List.getElem?_eq_getElem hk
   have HX:=Lib.hid hx
   clear hx
   go_enter Tryz.func77,Tryz.ntmps77
   go_wp2_with(first|(go_at_call 138;((with_reducible refine(place_any ts _ _ _ _ _ rfl hl (Row.alloc hr _)).mono ?_);rw[HP.out];rintro e w2 ⟨rfl,hb⟩))|(go_at_call 76;((with_reducible refine(check_any ts _ _ _ _ rfl hl ((Row.alloc hr _).below hb)).mono ?_);rw[HT.out];rintro e w3 ⟨rfl,hb3⟩;have hb4:=hb.trans (hb3.mono hb.size);have hcl:=own_cells hb4;have hfz:=own_frozen hb4;have hb5:=((Below.refl w.heap.size w).alloc (Nat.le_refl _) _).trans (hb4.mono (by simp));obtain⟨h0,h1,h2,h3,h4⟩:=HCS.out _ hb5)))
   (try simp only[Exit.inBlock,Exit.then])
   refine bodyPost_ret (v:= .tuple #[ts[k].agg,.bool true]) (by simp[results,Tryz.results77,go_sem,hcl]) rfl ?_
   exact⟨by rw[HW.out,HT.out,HX.out];rfl,hb5.setCell (Nat.le_refl _) _|>.setCell (Nat.le_refl _) _|>.setCell (Nat.le_refl _) _|>.setCell (Nat.le_refl _) _|>.setCell (Nat.le_refl _) _⟩
end Go.Proofs.YtfdmhpohfjbpfaaGreat
