import Derived.Test.YtfdmhpohfjbpfaaGreatSq22
set_option linter.unusedVariables false
set_option linter.unusedSimpArgs false
namespace Go.Proofs.YtfdmhpohfjbpfaaGreat
open Go.ChangeShapes Go.WideShapes Go.ChangeAt Go.RowKit
set_option maxRecDepth 100000
theorem Link.congr {α:Type} {P Q:List UInt8→Nat→ Got α} {bs:List UInt8} {st st':Except Nat Nat} {v:α} (h:Link P bs st v st') (he:∀p,P bs p=Q bs p):Link Q bs st v st':=by
 unfold Link at h ⊢
 cases st with
 |error f=>exact h
 |ok p=>simp only at h ⊢;rw[←he p];exact h
set_option maxHeartbeats 16000000 in
theorem refreadcommand_any (a:Option Addr) (c:Nat) (bs:List UInt8) (w:World) (hr:RowB w a bs) (hc:bs.length≤ c) (hl:bs.length≤ 1048576):
 Calls Tryz.prog 18 #[.slice a bs.length c] w (RetRdCmd w (readP zCmd wCmdP bs)):=by
 have hB1:Below w.heap.size w (w.alloc (.cells #[.int .i8 0,.int .i64 0,.int .i64 0,.int .i64 0,.int .i64 0,.int .i64 0,.int .i64 0,.int .i64 0,.int .i64 0,.int .i64 0,.int .i64 0,.bool false,.slice none 0 0] 54)):=mid_alloc' (Below.refl _ _)
 have HR0:=Lib.hid (Box.of_alloc (w:=w) (cs:=[.int .i8 0,.int .i64 0,.int .i64 0,.int .i64 0,.int .i64 0,.int .i64 0,.int .i64 0,.int .i64 0,.int .i64 0,.int .i64 0,.int .i64 0,.bool false,.slice none 0 0]) (t:=54) (Below.refl _ _))
 have HBE:=Lib.hid (begin_any a c bs (w.alloc (.cells #[.int .i8 0,.int .i64 0,.int .i64 0,.int .i64 0,.int .i64 0,.int .i64 0,.int .i64 0,.int .i64 0,.int .i64 0,.int .i64 0,.int .i64 0,.bool false,.slice none 0 0] 54)) (hr.below hB1) hc hl)
 have HB1:=Lib.hid hB1
 clear hB1 hr
 have HC0:Hid (∀y st',Link (fun l p=>bindP (kindP l p) fun a q=>(fun v0 l p=>bindP (timesP numP 10 l p) fun xs p=>bindP (truthP l p) fun v11 p=>bindP (listP 8 numP l p) fun v12 p=> .ok ((⟨v0,xs.getD 0 0,xs.getD 1 0,xs.getD 2 0,xs.getD 3 0,xs.getD 4 0,xs.getD 5 0,xs.getD 6 0,xs.getD 7 0,xs.getD 8 0,xs.getD 9 0,v11,v12⟩:WCmd),p)) a l q) bs (.ok 0) y st'→Link wCmdP bs (.ok 0) y st'):=fun y st' h=>h.congr (fun p=>(wCmdP_eq bs p).symm)
 go_enter Tryz.func18,Tryz.ntmps18
 go_wp2_with(first|(go_at_call 33;((with_reducible refine(small_rr _ c a bs _ (w1.alloc (.cells #[.int .i8 0,.int .i64 0,.int .i64 0,.int .i64 0,.int .i64 0,.int .i64 0,.int .i64 0,.int .i64 0,.int .i64 0,.int .i64 0,.int .i64 0,.bool false,.slice none 0 0] 54)) (by omega) HS1.out).mono ?_);rintro e w2 ⟨ht,vb,st,hk,hs,rfl⟩;have hx2:=HXA.out.turn ht (by simp) HXO.out.ne;have yc:=hx2.cell (j:=0) rfl;have yz:=hx2.froz (j:=0) (by simp);have HX2:=Lib.hid hx2;have HR2:=Lib.hid (HR1.out.turn ht (by simp) (by omega));have HS2:=Lib.hid hs;have HT2:=Lib.hid (Turn.next HT1.out ht);have HC2:=Lib.hid (Link.next (F:=fun v0 l p=>bindP (timesP numP 10 l p) fun xs p=>bindP (truthP l p) fun v11 p=>bindP (listP 8 numP l p) fun v12 p=> .ok ((⟨v0,xs.getD 0 0,xs.getD 1 0,xs.getD 2 0,xs.getD 3 0,xs.getD 4 0,xs.getD 5 0,xs.getD 6 0,xs.getD 7 0,xs.getD 8 0,xs.getD 9 0,v11,v12⟩:WCmd),p)) HC0.out (hk.map kindI));have hsz2:w1.heap.size+ 1≤w2.heap.size:= (by have:=ht.size;simp at this;omega);have HSZ2:=Lib.hid hsz2;clear ht hk hs hx2 hsz2))|(go_at_call 32;((with_reducible refine HBE.out.mono ?_);rintro e w1 ⟨rfl,hs,hb⟩;rw[World.size_alloc]at hs;have hba:Below w1.heap.size w1 (w1.alloc (.cells #[.int .i8 0,.int .i64 0,.int .i64 0,.int .i64 0,.int .i64 0,.int .i64 0,.int .i64 0,.int .i64 0,.int .i64 0,.int .i64 0,.int .i64 0,.bool false,.slice none 0 0] 54)):=mid_alloc' (Below.refl _ _);have hrs:=(HR0.out.next (by simp) hb).next (by simp) hba;have HR1:=Lib.hid hrs;have HXA:=Lib.hid (Box.of_alloc (w:=w1) (cs:=[.int .i8 0,.int .i64 0,.int .i64 0,.int .i64 0,.int .i64 0,.int .i64 0,.int .i64 0,.int .i64 0,.int .i64 0,.int .i64 0,.int .i64 0,.bool false,.slice none 0 0]) (t:=54) (Below.refl _ _));have HXO:=Lib.hid (hs.new (k:=w1.heap.size) (Nat.le_refl _));have HOF:=Lib.hid (fun k (hk:w1.heap.size≤ k)=>hs.new hk);have HG1:=Lib.hid hs.lt;have HS1:=Lib.hid (hs.below hba);have HT1:=Lib.hid (Turn.below (g:=w.heap.size+ 1) (gx:=w.heap.size+ 1) hba);have HBB:=Lib.hid (HB1.out.trans (hb.mono HB1.out.size));have HSZ:=Lib.hid (show w.heap.size+1≤ w1.heap.size by have:=hb.size;simp at this;omega);clear hs hb hrs hba)))
 clear yc yz
 have hba:Below (w2.setCell ⟨w1.heap.size,0,none⟩ (.int .i8 (IntKind.i8.wrap (vb.toNat:Int)))).heap.size (w2.setCell ⟨w1.heap.size,0,none⟩ (.int .i8 (IntKind.i8.wrap (vb.toNat:Int)))) ((w2.setCell ⟨w1.heap.size,0,none⟩ (.int .i8 (IntKind.i8.wrap (vb.toNat:Int)))).alloc (.cells #[.int .i64 0,.int .i64 0,.int .i64 0,.int .i64 0,.int .i64 0,.int .i64 0,.int .i64 0,.int .i64 0,.int .i64 0,.int .i64 0] 80)):=mid_alloc' (Below.refl _ _)
 have HX3:=Lib.hid ((HX2.out.set (i:=0) (by simp) (.int .i8 (IntKind.i8.wrap (vb.toNat:Int)))).next (by simp) hba)
 replace HX3:Hid (Box _ w1.heap.size [.int .i8 (IntKind.i8.wrap (vb.toNat:Int)),.int .i64 0,.int .i64 0,.int .i64 0,.int .i64 0,.int .i64 0,.int .i64 0,.int .i64 0,.int .i64 0,.int .i64 0,.int .i64 0,.bool false,.slice none 0 0]):=HX3
 have HR3:=Lib.hid ((HR2.out.far (p:=⟨w1.heap.size,0,none⟩) (by show w1.heap.size≠_;have:=HSZ.out;omega) (.int .i8 (IntKind.i8.wrap (vb.toNat:Int)))).next (by simp) hba)
 have HS3:=Lib.hid ((HS2.out.put HXO.out (i:=0) (v:= .int .i8 (IntKind.i8.wrap (vb.toNat:Int)))).below hba)
 have HT3:=Lib.hid (Turn.next (HT2.out.set ⟨w1.heap.size,0,none⟩ (.int .i8 (IntKind.i8.wrap (vb.toNat:Int))) (.inr (.inr (Nat.le_refl _)))) (Turn.below hba))
 have HN3:Hid (Box ((w2.setCell ⟨w1.heap.size,0,none⟩ (.int .i8 (IntKind.i8.wrap (vb.toNat:Int)))).alloc (.cells #[.int .i64 0,.int .i64 0,.int .i64 0,.int .i64 0,.int .i64 0,.int .i64 0,.int .i64 0,.int .i64 0,.int .i64 0,.int .i64 0] 80)) w2.heap.size [.int .i64 0,.int .i64 0,.int .i64 0,.int .i64 0,.int .i64 0,.int .i64 0,.int .i64 0,.int .i64 0,.int .i64 0,.int .i64 0]):=Lib.hid (by have:=Box.of_alloc (w:=w2.setCell ⟨w1.heap.size,0,none⟩ (.int .i8 (IntKind.i8.wrap (vb.toNat:Int)))) (cs:=[.int .i64 0,.int .i64 0,.int .i64 0,.int .i64 0,.int .i64 0,.int .i64 0,.int .i64 0,.int .i64 0,.int .i64 0,.int .i64 0]) (t:=80) (Below.refl _ _);simpa using this)
 clear hba
 have HNE:=Lib.hid (show w1.heap.size≠w2.heap.size by have:=HSZ2.out;omega)
 generalize(w2.setCell ⟨w1.heap.size,0,none⟩ (.int .i8 (IntKind.i8.wrap (vb.toNat:Int)))).alloc (.cells #[.int .i64 0,.int .i64 0,.int .i64 0,.int .i64 0,.int .i64 0,.int .i64 0,.int .i64 0,.int .i64 0,.int .i64 0,.int .i64 0] 80)=w3 at HX3 HR3 HS3 HT3 HN3 ⊢
 go_loopw [10] (fun i wr=>∃(xs:List Int) (st1:Except Nat Nat),xs.length≤10∧ i= .int .i64 xs.length∧Hid (Rs wr (w.heap.size+1) a c bs st1)∧Hid (Turn (w.heap.size+1) (w.heap.size+1) w1 wr)∧Hid (Box wr w1.heap.size [.int .i8 (IntKind.i8.wrap (vb.toNat:Int)),.int .i64 0,.int .i64 0,.int .i64 0,.int .i64 0,.int .i64 0,.int .i64 0,.int .i64 0,.int .i64 0,.int .i64 0,.int .i64 0,.bool false,.slice none 0 0])∧Hid (Box wr w2.heap.size (putI [.int .i64 0,.int .i64 0,.int .i64 0,.int .i64 0,.int .i64 0,.int .i64 0,.int .i64 0,.int .i64 0,.int .i64 0,.int .i64 0] 0 xs))∧Hid (Box wr w.heap.size [.int .i8 0,.int .i64 0,.int .i64 0,.int .i64 0,.int .i64 0,.int .i64 0,.int .i64 0,.int .i64 0,.int .i64 0,.int .i64 0,.int .i64 0,.bool false,.slice none 0 0])∧Hid (Link (timesP numP xs.length) bs st xs st1)) (fun i _=>10- (intOf i).toNat)
 case atStart=>exact ⟨[],st,by simp,rfl,HS3.out,HT3.out,HX3.out,by show Box _ _ _;rw[putI_nil];exact HN3.out,HR3.out,Link.pure [] bs st⟩
 case round=>
  obtain⟨xs,st1,hk,rfl,hs,ht,hx,hn,hrb,hlk⟩:=hrel
  by_cases hlt:xs.length< 10
  ·have HNU:=Lib.hid (number_rr _ c a bs st1 wr (by omega) hs.out)
   have HNO:=Lib.hid (HOF.out w2.heap.size (by have:=HSZ2.out;omega))
   go_wp2_with(go_at_call 34;((with_reducible refine HNU.out.mono ?_);rintro e w4 ⟨ht4,v4,st4,hk4,hs4,rfl⟩;have hn4:=hn.out.turn ht4 (by rw[putI_length (by simp;omega)];simp) HNO.out.ne;have yc:=hn4.cell (j:=xs.length) (List.getElem?_eq_getElem (by rw[putI_length (by simp;omega)];simp;omega));have yz:=hn4.froz (j:=xs.length) (by rw[putI_length (by simp;omega)];simp;omega);have HN4:=Lib.hid hn4;have HX4:=Lib.hid (hx.out.turn ht4 (by simp) HXO.out.ne);have HR4:=Lib.hid (hrb.out.turn ht4 (by simp) (by omega));have HT4:=Lib.hid (Turn.next ht.out ht4);have HS4:=Lib.hid hs4;have HK4:=Lib.hid hk4;clear ht4 hk4 hs4 hn4))
   have hset:=HN4.out.set (i:=xs.length) (by rw[putI_length (by simp;omega)];simp;omega) (.int .i64 v4)
   have hps:=putI_snoc (cs:=[.int .i64 0,.int .i64 0,.int .i64 0,.int .i64 0,.int .i64 0,.int .i64 0,.int .i64 0,.int .i64 0,.int .i64 0,.int .i64 0]) (o:=0) (xs:=xs) (by simp;omega) v4
   rw[Nat.zero_add]at hps
   rw[hps]at hset
   exact⟨⟨xs++[v4],st4,by simp;omega,by simp,HS4.out.put HNO.out,HT4.out.set _ _ (.inr (.inr (by show w1.heap.size≤w2.heap.size;have:=HSZ2.out;omega))),HX4.out.far (by show w2.heap.size≠_;exact fun e=>HNE.out e.symm) _,hset,HR4.out.far (by show w2.heap.size≠_;have:=HSZ.out;have:=HSZ2.out;omega) _,by(show Link _ _ _ _ _);rw[List.length_append];exact hlk.out.snoc HK4.out⟩,by simp[intOf];omega⟩
  ·have h10:xs.length= 10:=by omega
   have HLK:=hlk.out
   rw[h10]at HLK
   obtain⟨y0,y1,y2,y3,y4,y5,y6,y7,y8,y9,rfl⟩:∃y0 y1 y2 y3 y4 y5 y6 y7 y8 y9,xs=[y0,y1,y2,y3,y4,y5,y6,y7,y8,y9]:=by
    match xs,h10 with
    |[y0,y1,y2,y3,y4,y5,y6,y7,y8,y9],_=>exact ⟨y0,y1,y2,y3,y4,y5,y6,y7,y8,y9,rfl⟩
   have HC3:=Lib.hid (Link.next (F:=fun xs l p=>bindP (truthP l p) fun v11 p=>bindP (listP 8 numP l p) fun v12 p=> .ok ((⟨kindI vb,xs.getD 0 0,xs.getD 1 0,xs.getD 2 0,xs.getD 3 0,xs.getD 4 0,xs.getD 5 0,xs.getD 6 0,xs.getD 7 0,xs.getD 8 0,xs.getD 9 0,v11,v12⟩:WCmd),p)) HC2.out HLK)
   replace HC3:Hid (∀y st',Link (fun l p=>bindP (truthP l p) fun a q=>(fun v11 l p=>bindP (listP 8 numP l p) fun v12 p=> .ok ((⟨kindI vb,y0,y1,y2,y3,y4,y5,y6,y7,y8,y9,v11,v12⟩:WCmd),p)) a l q) bs st1 y st'→Link wCmdP bs (.ok 0) y st'):=HC3
   replace hn:Hid (Box wr w2.heap.size [.int .i64 y0,.int .i64 y1,.int .i64 y2,.int .i64 y3,.int .i64 y4,.int .i64 y5,.int .i64 y6,.int .i64 y7,.int .i64 y8,.int .i64 y9]):=hn
   clear HLK hlk h10 hk hlt HC2 HS3 HT3 HX3 HR3 HN3
   have n0:=hn.out.cell (j:=0) rfl
   have q1:=hx.out.cell (j:=1) rfl
   have z1:=hx.out.froz (j:=1) (by simp)
   have n1:=hn.out.cell (j:=1) rfl
   have q2:=hx.out.cell (j:=2) rfl
   have z2:=hx.out.froz (j:=2) (by simp)
   have n2:=hn.out.cell (j:=2) rfl
   have q3:=hx.out.cell (j:=3) rfl
   have z3:=hx.out.froz (j:=3) (by simp)
   have n3:=hn.out.cell (j:=3) rfl
   have q4:=hx.out.cell (j:=4) rfl
   have z4:=hx.out.froz (j:=4) (by simp)
   have n4:=hn.out.cell (j:=4) rfl
   have q5:=hx.out.cell (j:=5) rfl
   have z5:=hx.out.froz (j:=5) (by simp)
   have n5:=hn.out.cell (j:=5) rfl
   have q6:=hx.out.cell (j:=6) rfl
   have z6:=hx.out.froz (j:=6) (by simp)
   have n6:=hn.out.cell (j:=6) rfl
   have q7:=hx.out.cell (j:=7) rfl
   have z7:=hx.out.froz (j:=7) (by simp)
   have n7:=hn.out.cell (j:=7) rfl
   have q8:=hx.out.cell (j:=8) rfl
   have z8:=hx.out.froz (j:=8) (by simp)
   have n8:=hn.out.cell (j:=8) rfl
   have q9:=hx.out.cell (j:=9) rfl
   have z9:=hx.out.froz (j:=9) (by simp)
   have n9:=hn.out.cell (j:=9) rfl
   have q10:=hx.out.cell (j:=10) rfl
   have z10:=hx.out.froz (j:=10) (by simp)
   have hxn:=HNE.out
   go_upto_region 23 with(fail)
   show Code.wp _ _ _ _ (wr.setCells w1.heap.size 1 [.int .i64 y0,.int .i64 y1,.int .i64 y2,.int .i64 y3,.int .i64 y4,.int .i64 y5,.int .i64 y6,.int .i64 y7,.int .i64 y8,.int .i64 y9])
   have HX6:Hid (Box (wr.setCells w1.heap.size 1 [.int .i64 y0,.int .i64 y1,.int .i64 y2,.int .i64 y3,.int .i64 y4,.int .i64 y5,.int .i64 y6,.int .i64 y7,.int .i64 y8,.int .i64 y9]) w1.heap.size [.int .i8 (IntKind.i8.wrap (vb.toNat:Int)),.int .i64 y0,.int .i64 y1,.int .i64 y2,.int .i64 y3,.int .i64 y4,.int .i64 y5,.int .i64 y6,.int .i64 y7,.int .i64 y8,.int .i64 y9,.bool false,.slice none 0 0]):=Lib.hid (Box.sets [.int .i64 y0,.int .i64 y1,.int .i64 y2,.int .i64 y3,.int .i64 y4,.int .i64 y5,.int .i64 y6,.int .i64 y7,.int .i64 y8,.int .i64 y9] 1 _ _ hx.out (by simp))
   have HS6:=Lib.hid (hs.out.keep (Keep.sets (S:=fun k=>k= w1.heap.size) rfl [.int .i64 y0,.int .i64 y1,.int .i64 y2,.int .i64 y3,.int .i64 y4,.int .i64 y5,.int .i64 y6,.int .i64 y7,.int .i64 y8,.int .i64 y9] 1 (Keep.refl _ wr)) (fun k e=>by subst e;exact HXO.out))
   have HR6:=Lib.hid (hrb.out.block (setCells_keep w1.heap.size [.int .i64 y0,.int .i64 y1,.int .i64 y2,.int .i64 y3,.int .i64 y4,.int .i64 y5,.int .i64 y6,.int .i64 y7,.int .i64 y8,.int .i64 y9] 1 wr w.heap.size (by have:=HSZ.out;omega)))
   have HT6:Hid (Turn (w.heap.size+1) (w.heap.size+1) w1 (wr.setCells w1.heap.size 1 [.int .i64 y0,.int .i64 y1,.int .i64 y2,.int .i64 y3,.int .i64 y4,.int .i64 y5,.int .i64 y6,.int .i64 y7,.int .i64 y8,.int .i64 y9])):=Lib.hid (Keep.sets (.inr (.inr (Nat.le_refl _))) [.int .i64 y0,.int .i64 y1,.int .i64 y2,.int .i64 y3,.int .i64 y4,.int .i64 y5,.int .i64 y6,.int .i64 y7,.int .i64 y8,.int .i64 y9] 1 ht.out)
   clear n0 q1 z1 n1 q2 z2 n2 q3 z3 n3 q4 z4 n4 q5 z5 n5 q6 z6 n6 q7 z7 n7 q8 z8 n8 q9 z9 n9 q10 z10 hs ht hx hn hrb
   generalize wr.setCells w1.heap.size 1 [.int .i64 y0,.int .i64 y1,.int .i64 y2,.int .i64 y3,.int .i64 y4,.int .i64 y5,.int .i64 y6,.int .i64 y7,.int .i64 y8,.int .i64 y9]=w6 at HX6 HS6 HR6 HT6 ⊢
   go_wp2_with(first|(go_at_call 36;((with_reducible refine HCNT.out.mono ?_);rintro e w8 ⟨ht,kk,st8,hk8,hs8,rfl,h08⟩;have HKK:=Lib.hid (cnt_kk hk8 (by omega) h08);have HX8:Hid (Box w8 w1.heap.size [.int .i8 (IntKind.i8.wrap (vb.toNat:Int)),.int .i64 y0,.int .i64 y1,.int .i64 y2,.int .i64 y3,.int .i64 y4,.int .i64 y5,.int .i64 y6,.int .i64 y7,.int .i64 y8,.int .i64 y9,.bool vt,.slice none 0 0]):=Lib.hid ((HX7.out.set (i:=11) (by simp) (.bool vt)).turn ht (by simp) HXO.out.ne);have HR8:=Lib.hid ((HR7.out.far (p:=⟨w1.heap.size,11,none⟩) (by show w1.heap.size≠_;have:=HSZ.out;omega) (.bool vt)).turn ht (by simp) (by omega));have HT8:=Lib.hid (Turn.next (HT7.out.set ⟨w1.heap.size,11,none⟩ (.bool vt) (.inr (.inr (Nat.le_refl _)))) ht);have HS8:=Lib.hid hs8;have HK8:=Lib.hid hk8;clear ht hk8 hs8 h08 yc yz))|(go_at_call 35;((with_reducible refine(truth_rr _ c a bs _ w6 (by omega) HS6.out).mono ?_);rintro e w7 ⟨ht,vt,st7,hk7,hs7,rfl⟩;have hx7:=HX6.out.turn ht (by simp) HXO.out.ne;have yc:=hx7.cell (j:=11) rfl;have yz:=hx7.froz (j:=11) (by simp);have HX7:=Lib.hid hx7;have HR7:=Lib.hid (HR6.out.turn ht (by simp) (by omega));have HT7:=Lib.hid (Turn.next HT6.out ht);have HC7:=Lib.hid (Link.next (F:=fun v11 l p=>bindP (listP 8 numP l p) fun v12 p=> .ok ((⟨kindI vb,y0,y1,y2,y3,y4,y5,y6,y7,y8,y9,v11,v12⟩:WCmd),p)) HC3.out hk7);have HCNT:Hid (Calls Tryz.prog 36 #[.pointer (some ⟨w.heap.size+1,0,none⟩),.int .i64 8] (w7.setCell ⟨w1.heap.size,11,none⟩ (.bool vt)) (RetCt (w7.setCell ⟨w1.heap.size,11,none⟩ (.bool vt)) (w.heap.size+1) a c bs 8 st7)):=count_rr _ c 8 a bs st7 _ (by omega) (hs7.put HXO.out) (by omega) (by omega);clear ht hk7 hs7 hx7)))
   clear HC3 HX6 HS6 HR6 HT6 HX7 HR7 HT7 HCNT
   have hz8:=HT8.out.size
   have HL8:Hid (Lr w8 w8 (w.heap.size+1) w1.heap.size 12 a c bs st8 [.int .i8 (IntKind.i8.wrap (vb.toNat:Int)),.int .i64 y0,.int .i64 y1,.int .i64 y2,.int .i64 y3,.int .i64 y4,.int .i64 y5,.int .i64 y6,.int .i64 y7,.int .i64 y8,.int .i64 y9,.bool vt,.slice none 0 0] 3 1 none 0 0 []):=Lib.hid ⟨HS8.out,Turn.refl _ _ _,HX8.out,Can.nil _ _ _ _,(fun _ _ _ h=>by cases h),HS8.out.lt,HX8.out.lt (by simp),HXO.out,(fun k hk=>HOF.out k (by omega)),by simp⟩
   have HC8:Hid (∀y st',Link (fun l p=>bindP (listP 8 numP l p) fun a q=>(fun v12 _ p=> .ok ((⟨kindI vb,y0,y1,y2,y3,y4,y5,y6,y7,y8,y9,vt,v12⟩:WCmd),p)) a l q) bs st7 y st'→Link wCmdP bs (.ok 0) y st'):=HC7
   have HSZ8:=Lib.hid hz8
   clear hz8 HC7 HS8 HX8
   go_loopw [14] (fun i wr=>∃(xs:List Int) (st9:Except Nat Nat) (a1:Option Addr) (c1:Nat),xs.length≤kk∧ i= .int .i64 xs.length∧Hid (Lr w8 wr (w.heap.size+1) w1.heap.size 12 a c bs st9 [.int .i8 (IntKind.i8.wrap (vb.toNat:Int)),.int .i64 y0,.int .i64 y1,.int .i64 y2,.int .i64 y3,.int .i64 y4,.int .i64 y5,.int .i64 y6,.int .i64 y7,.int .i64 y8,.int .i64 y9,.bool vt,.slice none 0 0] 3 1 a1 xs.length c1 (xs.flatMap cellsInt))∧Hid (Box wr w.heap.size [.int .i8 0,.int .i64 0,.int .i64 0,.int .i64 0,.int .i64 0,.int .i64 0,.int .i64 0,.int .i64 0,.int .i64 0,.int .i64 0,.int .i64 0,.bool false,.slice none 0 0])∧Hid (Link (timesP numP xs.length) bs st8 xs st9)) (fun i _=>kk- (intOf i).toNat)
   case atStart=>exact ⟨[],st8,none,0,by simp,rfl,HL8.out,HR8.out,Link.pure [] bs st8⟩
   case round=>
    obtain⟨xs,st9,a1,c1,hk,rfl,hls,hrb,hlk⟩:=hrel
    by_cases hlt:xs.length< kk
    ·have HNU:=Lib.hid (number_rr _ c a bs st9 wr (by omega) hls.out.rs)
     have hlen:xs.length≤ 300000:=by have:=HKK.out;omega
     have hd:decide (xs.length<kk)=true:= decide_eq_true hlt
     go_wp2_with(first|(go_at_call 34;((with_reducible refine HNU.out.mono ?_);rintro e w4 ⟨ht4,v4,st4,hk4,hs4,rfl⟩;have hl4:=hls.out.one ht4 hs4;have k0:=hl4.box.cell (j:=12) rfl;have HL4:=Lib.hid hl4;have HR4:=Lib.hid (hrb.out.turn ht4 (by simp) (by omega));have HK4:=Lib.hid hk4;have hDr:w8.heap.size≤ w4.heap.size:=hl4.turn.size;clear ht4 hk4 hs4 hl4))|(at_builtin;(refine wpList_far el_int rfl (.tmp 84) (.tmp 86) rfl w8.heap.size a1 xs.length c1 (xs.flatMap cellsInt) rfl (HL4.out.can.alloc _) (some ⟨w4.heap.size,0,none⟩) 1 1 [.int .i64 v4] rfl rfl (Row.new _ _ _ _) (by intro u hu;simp at hu;subst hu;rfl) (by omega) (by simp;omega) (fun b o s e=>⟨(HL4.out.far b o s e).1,by have:=(HL4.out.far b o s e).2;simp;omega⟩) ?_);intro a2 c2 w5 hcan2 hg2 hn2 hf2 hl2;have hst:=HL4.out.push ((Below.refl _ _).alloc (Nat.le_refl _) _) hcan2 hg2 hf2 hl2;have q0:=hst.2.1.cell (j:=12) rfl;have q1z:=hst.2.1.froz (j:=12) (by simp);have HST:=Lib.hid hst;clear hst hcan2 hg2 hn2 hf2 hl2))
     have HRB5:=HR4.out.block (HST.out.2.2 w.heap.size (HR4.out.lt (by simp)) (fun o s e=>by have:=(HL4.out.far _ o s e).1;have:=HSZ8.out;have:=HSZ.out;omega))
     exact⟨⟨xs++[v4],st4,a2,c2,by simp;omega,by simp,by(show Lr _ _ _ _ _ _ _ _ _ _ _ _ _ _ _ _);rw[List.length_append,List.flatMap_append,List.flatMap_singleton];exact HST.out.1,HRB5.far (by show w1.heap.size≠_;have:=HSZ.out;omega) _,by(show Link _ _ _ _ _);rw[List.length_append];exact hlk.out.snoc HK4.out⟩,by simp[intOf];omega⟩
    ·have hkk:xs.length= kk:=by omega
     subst hkk
     have HCF:=Lib.hid (Link.next (F:=fun v12 _ p=> .ok ((⟨kindI vb,y0,y1,y2,y3,y4,y5,y6,y7,y8,y9,vt,v12⟩:WCmd),p)) HC8.out (Link.bind (F:=fun n l p=>timesP numP n l p) HK8.out hlk.out) _ _ (Link.pure _ bs st9))
     have HEND:=Lib.hid (end_any _ c a bs st9 wr (by omega) hls.out.rs)
     have HFR:Hid (FarRow w8 wr a1 (xs.flatMap cellsInt)):=Lib.hid ⟨hls.out.can.row,fun _ b o s e=>(hls.out.far b o s e).1⟩
     have HCL:=Lib.hid hls.out.can.le
     have HTQ:=Lib.hid hls.out.turn
     have HXQ:Hid (Box wr w1.heap.size ([.int .i8 (IntKind.i8.wrap (vb.toNat:Int)),.int .i64 y0,.int .i64 y1,.int .i64 y2,.int .i64 y3,.int .i64 y4,.int .i64 y5,.int .i64 y6,.int .i64 y7,.int .i64 y8,.int .i64 y9,.bool vt,.slice a1 xs.length c1])):=Lib.hid hls.out.box
     have HGX:=Lib.hid (And.intro hls.out.gl hls.out.xl)
     have HXE:=Lib.hid hls.out.off
     clear hls hlk
     have hd:decide (xs.length<xs.length)=false:= decide_eq_false (by omega)
     go_wp2_with(go_at_call 37;((with_reducible refine HEND.out.mono ?_);rintro e w9 ⟨ht,⟨f,rfl,he⟩|⟨rfl,p,he,hp⟩⟩<;>have HRB:=Lib.hid (hrb.out.turn ht (by simp) (by omega))<;>have HXB:=Lib.hid (HXQ.out.turn ht (by simp) HXE.out.ne)<;>have HE:=Lib.hid he<;>have HFR9:=Lib.hid (HFR.out.turn ht HGX.out.1 HGX.out.1)<;>have HT9:=Lib.hid (Keep.trans (HTQ.out.mono (S':=fun k=>k= w.heap.size+1∨ w1.heap.size≤k) (fun k _ e=>by have:=HSZ8.out;omega)) (ht.mono (S':=fun k=>k= w.heap.size+1∨ w1.heap.size≤k) (fun k _ e=>by have:=HSZ8.out;have:=HTQ.out.size;omega)))<;>clear ht he<;>(have r0:=HRB.out.cell (j:=0) rfl;have rz0:=HRB.out.froz (j:=0) (by simp);have y0c:=HXB.out.cell (j:=0) rfl;have r1:=HRB.out.cell (j:=1) rfl;have rz1:=HRB.out.froz (j:=1) (by simp);have y1c:=HXB.out.cell (j:=1) rfl;have r2:=HRB.out.cell (j:=2) rfl;have rz2:=HRB.out.froz (j:=2) (by simp);have y2c:=HXB.out.cell (j:=2) rfl;have r3:=HRB.out.cell (j:=3) rfl;have rz3:=HRB.out.froz (j:=3) (by simp);have y3c:=HXB.out.cell (j:=3) rfl;have r4:=HRB.out.cell (j:=4) rfl;have rz4:=HRB.out.froz (j:=4) (by simp);have y4c:=HXB.out.cell (j:=4) rfl;have r5:=HRB.out.cell (j:=5) rfl;have rz5:=HRB.out.froz (j:=5) (by simp);have y5c:=HXB.out.cell (j:=5) rfl;have r6:=HRB.out.cell (j:=6) rfl;have rz6:=HRB.out.froz (j:=6) (by simp);have y6c:=HXB.out.cell (j:=6) rfl;have r7:=HRB.out.cell (j:=7) rfl;have rz7:=HRB.out.froz (j:=7) (by simp);have y7c:=HXB.out.cell (j:=7) rfl;have r8:=HRB.out.cell (j:=8) rfl;have rz8:=HRB.out.froz (j:=8) (by simp);have y8c:=HXB.out.cell (j:=8) rfl;have r9:=HRB.out.cell (j:=9) rfl;have rz9:=HRB.out.froz (j:=9) (by simp);have y9c:=HXB.out.cell (j:=9) rfl;have r10:=HRB.out.cell (j:=10) rfl;have rz10:=HRB.out.froz (j:=10) (by simp);have y10c:=HXB.out.cell (j:=10) rfl;have r11:=HRB.out.cell (j:=11) rfl;have rz11:=HRB.out.froz (j:=11) (by simp);have y11c:=HXB.out.cell (j:=11) rfl;have r12:=HRB.out.cell (j:=12) rfl;have rz12:=HRB.out.froz (j:=12) (by simp);have y12c:=HXB.out.cell (j:=12) rfl)))
     ·rw[read_bad (z:=zCmd) HCF.out hl HE.out]
      obtain⟨w4,hw4⟩:∃w4,w4=w9.setCells w.heap.size 0 [.int .i8 0,.int .i64 0,.int .i64 0,.int .i64 0,.int .i64 0,.int .i64 0,.int .i64 0,.int .i64 0,.int .i64 0,.int .i64 0,.int .i64 0,.bool false,.slice none 0 0]:=⟨_,rfl⟩
      have hk4:Keep (fun k=>k= w.heap.size) w9 w4:=by rw[hw4];exact Keep.sets (S:=fun k=>k= w.heap.size) rfl _ 0 (Keep.refl _ _)
      have hX4:Box w4 w.heap.size [.int .i8 0,.int .i64 0,.int .i64 0,.int .i64 0,.int .i64 0,.int .i64 0,.int .i64 0,.int .i64 0,.int .i64 0,.int .i64 0,.int .i64 0,.bool false,.slice none 0 0]:=by rw[hw4];exact HRB.out.whole rfl
      show bodyPost _ _ _ _ _ (w9.setCells w.heap.size 0 [.int .i8 0,.int .i64 0,.int .i64 0,.int .i64 0,.int .i64 0,.int .i64 0,.int .i64 0,.int .i64 0,.int .i64 0,.int .i64 0,.int .i64 0,.bool false,.slice none 0 0])
      rw[←hw4]
      have cc0:=hX4.cell (j:=0) rfl
      have cc1:=hX4.cell (j:=1) rfl
      have cc2:=hX4.cell (j:=2) rfl
      have cc3:=hX4.cell (j:=3) rfl
      have cc4:=hX4.cell (j:=4) rfl
      have cc5:=hX4.cell (j:=5) rfl
      have cc6:=hX4.cell (j:=6) rfl
      have cc7:=hX4.cell (j:=7) rfl
      have cc8:=hX4.cell (j:=8) rfl
      have cc9:=hX4.cell (j:=9) rfl
      have cc10:=hX4.cell (j:=10) rfl
      have cc11:=hX4.cell (j:=11) rfl
      have cc12:=hX4.cell (j:=12) rfl
      refine bodyPost_ret (v:= .tuple #[.agg #[.int .i8 0,.int .i64 0,.int .i64 0,.int .i64 0,.int .i64 0,.int .i64 0,.int .i64 0,.int .i64 0,.int .i64 0,.int .i64 0,.int .i64 0,.bool false,.slice none 0 0],.int .i64 f,.int .i64 50]) (by simp[results,Tryz.results18,go_sem,cc0,cc1,cc2,cc3,cc4,cc5,cc6,cc7,cc8,cc9,cc10,cc11,cc12]) rfl ⟨pzCmd,rfl,memzCmd _ _,?_⟩
      exact HBB.out.trans (((Keep.trans (HT8.out.mono (S':=fun k=>w.heap.size≤ k) (fun k _ e=>by have:=HSZ.out;omega)) (HT9.out.mono (S':=fun k=>w.heap.size≤ k) (fun k _ e=>by have:=HSZ.out;omega))).trans (hk4.mono (S':=fun k=>w.heap.size≤ k) (fun k _ e=>by omega))).bel HBB.out.size (fun k e=>e))
     ·obtain⟨rfl,hnl⟩:=And.intro HE.out hp
      rw[read_ok (z:=zCmd) HCF.out hl hnl,kind_wrap]
      obtain⟨w4,hw4⟩:∃w4,w4=w9.setCells w.heap.size 0 [.int .i8 (kindI vb),.int .i64 y0,.int .i64 y1,.int .i64 y2,.int .i64 y3,.int .i64 y4,.int .i64 y5,.int .i64 y6,.int .i64 y7,.int .i64 y8,.int .i64 y9,.bool vt,.slice a1 xs.length c1]:=⟨_,rfl⟩
      have hk4:Keep (fun k=>k= w.heap.size) w9 w4:=by rw[hw4];exact Keep.sets (S:=fun k=>k= w.heap.size) rfl _ 0 (Keep.refl _ _)
      have hX4:Box w4 w.heap.size [.int .i8 (kindI vb),.int .i64 y0,.int .i64 y1,.int .i64 y2,.int .i64 y3,.int .i64 y4,.int .i64 y5,.int .i64 y6,.int .i64 y7,.int .i64 y8,.int .i64 y9,.bool vt,.slice a1 xs.length c1]:=by rw[hw4];exact HRB.out.whole rfl
      show bodyPost _ _ _ _ _ (w9.setCells w.heap.size 0 [.int .i8 (kindI vb),.int .i64 y0,.int .i64 y1,.int .i64 y2,.int .i64 y3,.int .i64 y4,.int .i64 y5,.int .i64 y6,.int .i64 y7,.int .i64 y8,.int .i64 y9,.bool vt,.slice a1 xs.length c1])
      rw[←hw4]
      have cc0:=hX4.cell (j:=0) rfl
      have cc1:=hX4.cell (j:=1) rfl
      have cc2:=hX4.cell (j:=2) rfl
      have cc3:=hX4.cell (j:=3) rfl
      have cc4:=hX4.cell (j:=4) rfl
      have cc5:=hX4.cell (j:=5) rfl
      have cc6:=hX4.cell (j:=6) rfl
      have cc7:=hX4.cell (j:=7) rfl
      have cc8:=hX4.cell (j:=8) rfl
      have cc9:=hX4.cell (j:=9) rfl
      have cc10:=hX4.cell (j:=10) rfl
      have cc11:=hX4.cell (j:=11) rfl
      have cc12:=hX4.cell (j:=12) rfl
      refine bodyPost_ret (v:= .tuple #[.agg #[.int .i8 (kindI vb),.int .i64 y0,.int .i64 y1,.int .i64 y2,.int .i64 y3,.int .i64 y4,.int .i64 y5,.int .i64 y6,.int .i64 y7,.int .i64 y8,.int .i64 y9,.bool vt,.slice a1 xs.length c1],.int .i64 0,.int .i64 0]) (by simp[results,Tryz.results18,go_sem,cc0,cc1,cc2,cc3,cc4,cc5,cc6,cc7,cc8,cc9,cc10,cc11,cc12]) rfl ⟨(a1,c1),rfl,⟨(HFR9.out.keep hk4 (fun k e=>by have:=HSZ8.out;have:=HSZ.out;omega)).mono (by have:=HSZ8.out;have:=HSZ.out;omega),HCL.out⟩,?_⟩
      exact HBB.out.trans (((Keep.trans (HT8.out.mono (S':=fun k=>w.heap.size≤ k) (fun k _ e=>by have:=HSZ.out;omega)) (HT9.out.mono (S':=fun k=>w.heap.size≤ k) (fun k _ e=>by have:=HSZ.out;omega))).trans (hk4.mono (S':=fun k=>w.heap.size≤ k) (fun k _ e=>by omega))).bel HBB.out.size (fun k e=>e))
end Go.Proofs.YtfdmhpohfjbpfaaGreat
