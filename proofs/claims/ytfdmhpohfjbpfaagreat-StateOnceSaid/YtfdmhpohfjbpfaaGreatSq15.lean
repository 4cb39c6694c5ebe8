import Derived.Test.YtfdmhpohfjbpfaaGreatSqRefCheckSt
import Derived.Test.YtfdmhpohfjbpfaaGreatSqStaOwn
set_option linter.unusedVariables false
set_option linter.unusedSimpArgs false
namespace Go.Proofs.YtfdmhpohfjbpfaaGreat
open Go.ChangeShapes Go.WideShapes Go.ChangeAt Go.RowKit
set_option maxRecDepth 100000
theorem dskOk_next {l:List Desk} {k:Nat} (h:k< l.length) (hk:dsksOk (l.take k)=true) (h1:lastKey Desk.shaper 0 (l.take k)<l[k].shaper) (h2:l[k].shaper≤8) (h3:1≤ l[k].epoch) (h4:1≤ l[k].number):dsksOk (l.take (k+1))=true:= by
 unfold dsksOk at*
 rw[chainOk_take h,hk]
 simp[dskGood,h1,h2,h3,h4]
theorem dskOk_bad {l:List Desk} {k:Nat} (h:k< l.length) (h1:¬(lastKey Desk.shaper 0 (l.take k)<l[k].shaper∧l[k].shaper≤8∧ 1≤l[k].epoch∧1≤ l[k].number)):dsksOk l=false:= by
 refine chainOk_bad h ?_
 unfold dskGood
 by_cases a:lastKey Desk.shaper 0 (l.take k)<l[k].shaper<;>by_cases b:l[k].shaper≤8<;>by_cases c:1≤ l[k].epoch<;>by_cases d:1≤ l[k].number<;>simp [a,b,c,d]
 exact h1 ⟨a,b,c,d⟩
theorem stateOk_eq (s:St):stateOk s=(decide (0≤s.term∧ 0≤s.stamp)&&(sessOk s.sess&&(stOk s&&dsksOk s.dsks))):=rfl
set_option maxHeartbeats 4000000 in
theorem check_sta (s:St) (r:Raw) (B:Nat) (w:World) (h:StAt w B r s) (hl1:s.tens.length≤ 900) (hl2:s.leas.length≤ 900) (hl3:s.sess.length≤ 900) (hl4:s.dsks.length≤ 900):
 Calls Tryz.prog 21 #[r.agg] w fun e w'=>e= .returned (.bool (stateOk s))∧Below w.heap.size w w':=by
 have HE:=Lib.hid (stateOk_eq s)
 have HB:=Lib.hid (fun k (h:k< s.dsks.length)=>dskOk_bad h)
 have HT:Hid (dsksOk (s.dsks.take s.dsks.length)=true→ dsksOk s.dsks=true):=fun h=>by rw[List.take_length]at h;exact h
 have H0:Hid (dsksOk (s.dsks.take 0)=true):=rfl
 have HN:=Lib.hid (fun k (h:k< s.dsks.length)=>dskOk_next h)
 have HL:=Lib.hid (fun k (h:k< s.dsks.length)=>lastKey_take (key:=Desk.shaper) (a:=0) h)
 have HGE:Hid (∀k,dsksOk (s.dsks.take k)=true→ 0≤lastKey Desk.shaper 0 (s.dsks.take k)):=fun k h=>lastKey_ge h
 have HCK:=Lib.hid (fun w' (hb:Below w.heap.size w w')=>check_st s r B w' (h.below hb) hl1 hl2)
 have HSE:=Lib.hid (fun w' (hb:Below w.heap.size w w')=>check_ses s.sess r.ses.a r.ses.n r.ses.c w' h.ses.len (le_maxLen (by have:=h.ses.len;omega)) (h.ses.row.below hb))
 have HD:=Lib.hid h.dsk.toSliAt
 have HL4:=Lib.hid hl4
 generalize hso:stOk s=so at HCK HE
 generalize hse:sessOk s.sess=se at HSE HE
 generalize hdo:dsksOk s.dsks=dk at HB HT HE
 generalize stateOk s=res at HE ⊢
 obtain⟨term,stamp,next,⟨a1,n1,c1⟩,⟨a2,n2,c2⟩,⟨a3,n3,c3⟩,⟨a4,n4,c4⟩⟩:=r
 have hq1:=h.term
 have hq2:=h.stamp
 simp only at hq1 hq2
 rw[←hq1,←hq2]at HE
 have HB0:Hid (Below w.heap.size w (w.alloc (.cells #[.int .i64 term,.int .i64 stamp,.int .i64 next,.slice a1 n1 c1,.slice a2 n2 c2,.slice a3 n3 c3,.slice a4 n4 c4] 27))):=mid_alloc' (Below.refl _ _)
 have HX0:Hid (Box (w.alloc (.cells #[.int .i64 term,.int .i64 stamp,.int .i64 next,.slice a1 n1 c1,.slice a2 n2 c2,.slice a3 n3 c3,.slice a4 n4 c4] 27)) w.heap.size (Raw.cells ⟨term,stamp,next,⟨a1,n1,c1⟩,⟨a2,n2,c2⟩,⟨a3,n3,c3⟩,⟨a4,n4,c4⟩⟩)):=Box.of_alloc (w:=w) (Below.refl _ _)
 clear h hl1 hl2 hl3 hl4 hso hse hdo hq1 hq2
 have k0:=HX0.out.cell (j:=0) rfl
 have k1:=HX0.out.cell (j:=1) rfl
 have k5:=HX0.out.cell (j:=5) rfl
 by_cases g1:term< 0
 ·have HR:Hid (res=false):=by show _=_;rw[HE.out,decide_eq_false (by omega)];rfl
  have d1:decide (term<0)=true:= decide_eq_true g1
  go_enter Tryz.func21,Tryz.ntmps21
  go_wp2
  go_returns
  exact⟨ret_bool HR.out.symm,HB0.out⟩
 have d1:decide (term<0)=false:= decide_eq_false g1
 by_cases g2:stamp< 0
 ·have HR:Hid (res=false):=by show _=_;rw[HE.out,decide_eq_false (by omega)];rfl
  have d2:decide (stamp<0)=true:= decide_eq_true g2
  go_enter Tryz.func21,Tryz.ntmps21
  go_wp2
  go_returns
  exact⟨ret_bool HR.out.symm,HB0.out⟩
 have d2:decide (stamp<0)=false:= decide_eq_false g2
 replace HE:Hid (res=(se&&(so&&dk))):=by show _=_;rw[HE.out,decide_eq_true (by omega)];rfl
 clear g1 g2
 cases se with
 |false=>
  have HR:Hid (res=false):=HE
  go_enter Tryz.func21,Tryz.ntmps21
  go_wp2_with(go_at_call 42;((with_reducible refine(HSE.out _ HB0.out).mono ?_);rintro e w1 ⟨rfl,hb1⟩;have HB1:=Lib.hid (HB0.out.trans (hb1.mono HB0.out.size));have HX1:=Lib.hid (HX0.out.next (by simp) hb1);have q1:=HB1.out.size;clear k0 k1 k5 hb1;obtain⟨k0,k1,k2,k3,k4,k5,k6⟩:=cellsSt0 HX1.out.range;simp only at k0 k1 k2 k3 k4 k5 k6))
  go_returns
  exact⟨ret_bool HR.out.symm,HB1.out⟩
 |true=>
 cases so with
 |false=>
  have HR:Hid (res=false):=HE
  go_enter Tryz.func21,Tryz.ntmps21
  go_wp2_with(first|((with_reducible refine at_load 27 (.tmp 1) ?_);refine wpList_load_as laySt rfl (.tmp 1) rfl w.heap.size 0 rfl ⟨term,stamp,next,⟨a1,n1,c1⟩,⟨a2,n2,c2⟩,⟨a3,n3,c3⟩,⟨a4,n4,c4⟩⟩ (.agg #[.int .i64 term,.int .i64 stamp,.int .i64 next,.slice a1 n1 c1,.slice a2 n2 c2,.slice a3 n3 c3,.slice a4 n4 c4]) rfl HX1.out.range ?_)|(go_at_call 42;((with_reducible refine(HSE.out _ HB0.out).mono ?_);rintro e w1 ⟨rfl,hb1⟩;have HB1:=Lib.hid (HB0.out.trans (hb1.mono HB0.out.size));have HX1:=Lib.hid (HX0.out.next (by simp) hb1);have q1:=HB1.out.size;clear k0 k1 k5 hb1;obtain⟨k0,k1,k2,k3,k4,k5,k6⟩:=cellsSt0 HX1.out.range;simp only at k0 k1 k2 k3 k4 k5 k6))|(go_at_call 43;((with_reducible refine(HCK.out _ HB1.out).mono ?_);rintro e w2 ⟨rfl,hb2⟩;have HB2:=Lib.hid (HB1.out.trans (hb2.mono HB1.out.size));have HX2:=Lib.hid (HX1.out.next (by simp) hb2);have q2:=HB2.out.size;clear k0 k1 k2 k3 k4 k5 k6 hb2;obtain⟨k0,k1,k2,k3,k4,k5,k6⟩:=cellsSt0 HX2.out.range;simp only at k0 k1 k2 k3 k4 k5 k6)))
  go_returns
  exact⟨ret_bool HR.out.symm,HB2.out⟩
 |true=>
 replace HE:Hid (res=dk):=HE
 go_enter Tryz.func21,Tryz.ntmps21
 go_wp2_with(first|((with_reducible refine at_load 27 (.tmp 1) ?_);refine wpList_load_as laySt rfl (.tmp 1) rfl w.heap.size 0 rfl ⟨term,stamp,next,⟨a1,n1,c1⟩,⟨a2,n2,c2⟩,⟨a3,n3,c3⟩,⟨a4,n4,c4⟩⟩ (.agg #[.int .i64 term,.int .i64 stamp,.int .i64 next,.slice a1 n1 c1,.slice a2 n2 c2,.slice a3 n3 c3,.slice a4 n4 c4]) rfl HX1.out.range ?_)|(go_at_call 42;((with_reducible refine(HSE.out _ HB0.out).mono ?_);rintro e w1 ⟨rfl,hb1⟩;have HB1:=Lib.hid (HB0.out.trans (hb1.mono HB0.out.size));have HX1:=Lib.hid (HX0.out.next (by simp) hb1);have q1:=HB1.out.size;clear k0 k1 k5 hb1;obtain⟨k0,k1,k2,k3,k4,k5,k6⟩:=cellsSt0 HX1.out.range;simp only at k0 k1 k2 k3 k4 k5 k6))|(go_at_call 43;((with_reducible refine(HCK.out _ HB1.out).mono ?_);rintro e w2 ⟨rfl,hb2⟩;have HB2:=Lib.hid (HB1.out.trans (hb2.mono HB1.out.size));have HX2:=Lib.hid (HX1.out.next (by simp) hb2);have q2:=HB2.out.size;clear k0 k1 k2 k3 k4 k5 k6 hb2;obtain⟨k0,k1,k2,k3,k4,k5,k6⟩:=cellsSt0 HX2.out.range;simp only at k0 k1 k2 k3 k4 k5 k6)))
 obtain rfl:s.dsks.length= n4:=HD.out.len
 have hl9:=HL4.out
 generalize(Raw.agg ⟨term,stamp,next,⟨a1,n1,c1⟩,⟨a2,n2,c2⟩,⟨a3,n3,c3⟩,⟨a4,s.dsks.length,c4⟩⟩)=v0
 generalize(Value.agg #[.int .i64 term,.int .i64 stamp,.int .i64 next,.slice a1 n1 c1,.slice a2 n2 c2,.slice a3 n3 c3,.slice a4 s.dsks.length c4])=v21
 go_loopw [3,28] (fun la i wr=>∃k: Nat,k≤s.dsks.length∧ i= .int .i64 k∧la= .int .i64 (lastKey Desk.shaper 0 (s.dsks.take k))∧Hid (dsksOk (s.dsks.take k)=true)∧Hid (Below w2.heap.size w2 wr)) (fun _ i _=>s.dsks.length- (intOf i).toNat)
 case atStart=>exact ⟨0,by omega,rfl,rfl,H0,Below.refl _ _⟩
 case round=>
  obtain⟨k,hk,rfl,rfl,hok,hbr⟩:=hrel
  have hbw:Below w.heap.size w wr:=HB2.out.trans (hbr.out.mono HB2.out.size)
  have HBW:=Lib.hid hbw
  clear hbw k0 k1 k2 k3 k4 k5 k6
  by_cases hlt:k< s.dsks.length
  ·obtain⟨b,o,rfl,hcs⟩:=LRow.range HD.out.row hlt
   have HRG:=Lib.hid (hcs _ HBW.out)
   have HB1':=Lib.hid (HB.out k hlt)
   have HN1:=Lib.hid (HN.out k hlt hok.out)
   have HL1:=Lib.hid (HL.out k hlt)
   clear hcs
   generalize s.dsks[k]=x at HRG HB1' HN1 HL1
   generalize lastKey Desk.shaper 0 (s.dsks.take k)=la at HB1' HN1 ⊢
   obtain⟨x0,x1,x2,⟨xe,xr,xb,xl,xz⟩⟩:=x
   by_cases hgo:la< x0∧x0≤ 8∧1≤ x1∧1≤ x2
   ·obtain⟨h1,h2,h3,h4⟩:=hgo
    have HN2:=Lib.hid (HN1.out h1 h2 h3 h4)
    go_wp2_with(first|((with_reducible refine at_load 66 (.tmp 30) ?_);refine wpList_load_as layDsk rfl (.tmp 30) rfl b (o+k* 8) rfl ⟨x0,x1,x2,⟨xe,xr,xb,xl,xz⟩⟩ (.agg #[.int .i64 x0,.int .i64 x1,.int .i64 x2,.int .i64 xe,.int .i64 xr,.int .i64 xb,.int .i64 xl,.int .i64 xz]) rfl HRG.out ?_)|((with_reducible refine at_store 66 (.tmp 5) (.tmp 31) ?_);refine wpList_store_box layDsk rfl (.tmp 5) (.tmp 31) rfl ⟨x0,x1,x2,⟨xe,xr,xb,xl,xz⟩⟩ rfl rfl rfl ?_;intro w7 hw7 _ hb7 hs7;have HB7:=Lib.hid hb7;obtain⟨p0,p1,p2,_⟩:=cellsDsk hw7;simp only[Nat.zero_add]at p0 p1 p2;clear hw7 hb7))
    go_roundw
    case rel=>exact ⟨k+1,by omega,by go_num,by rw[HL1.out],HN2.out,hbr.out.trans (HB7.out.mono hbr.out.size)⟩
    case measure=>simp [intOf];omega
   ·have HG:=Lib.hid hgo
    have HO:=Lib.hid (HB1'.out hgo)
    clear hgo
    go_wp2_with(first|((with_reducible refine at_load 66 (.tmp 30) ?_);refine wpList_load_as layDsk rfl (.tmp 30) rfl b (o+k* 8) rfl ⟨x0,x1,x2,⟨xe,xr,xb,xl,xz⟩⟩ (.agg #[.int .i64 x0,.int .i64 x1,.int .i64 x2,.int .i64 xe,.int .i64 xr,.int .i64 xb,.int .i64 xl,.int .i64 xz]) rfl HRG.out ?_)|((with_reducible refine at_store 66 (.tmp 5) (.tmp 31) ?_);refine wpList_store_box layDsk rfl (.tmp 5) (.tmp 31) rfl ⟨x0,x1,x2,⟨xe,xr,xb,xl,xz⟩⟩ rfl rfl rfl ?_;intro w7 hw7 _ hb7 hs7;have HB7:=Lib.hid hb7;obtain⟨p0,p1,p2,_⟩:=cellsDsk hw7;simp only[Nat.zero_add]at p0 p1 p2;clear hw7 hb7))
    all_goals first
     |(go_returns;exact⟨ret_bool (HE.out.trans HO.out).symm,HBW.out.trans (HB7.out.mono HBW.out.size)⟩)
     |(exfalso;have:=HG.out;omega)
  ·obtain rfl:k= s.dsks.length:=by omega
   have HO:=Lib.hid (HT.out hok.out)
   go_wp2
   go_returns
   exact⟨ret_bool (HE.out.trans HO.out).symm,HBW.out⟩
theorem whole_any (b:Int) (w:World) (hb:b≤ 1000000000):Calls Tryz.prog 177 #[.int .i64 b] w fun e w'=>e= .returned (.int .i64 (max b 0/1000))∧w= w':=by
 by_cases h0:0≤ b
 ·have h2:b.tdiv 1000=b/ 1000:=Int.tdiv_eq_ediv_of_nonneg h0
  go_enter Tryz.func177,Tryz.ntmps177
  go_wp2
  go_returns
  exact⟨ret_int (by omega),rfl⟩
 ·go_enter Tryz.func177,Tryz.ntmps177
  go_wp2
  go_returns
  exact⟨ret_int (by omega),rfl⟩
def RetTwo (w:World) (r:Int× Int) (e:Ending) (w':World):Prop:= e= .returned (.tuple #[.int .i64 r.1,.int .i64 r.2])∧Below w.heap.size w w'
theorem take_any (b size:Int) (w:World) (h0:0≤ b) (h1:b≤ 1000000000):Calls Tryz.prog 165 #[.int .i64 b,.int .i64 size] w (RetTwo w (takeI b size)):=by
 have HW:=Lib.hid (whole_any b w h1)
 have HT:Hid (takeI b size=if size<0∨ max b 0/1000< size then(0,170)else(b-1000* size,0)):=rfl
 generalize takeI b size=res at HT ⊢
 have hq:0≤ max b 0/1000∧ max b 0/1000≤ 1000000∧1000* (max b 0/1000)≤max b 0:=by omega
 generalize max b 0/1000= q at HW HT hq
 obtain⟨hq1,hq2,hq3⟩:=hq
 go_each [size<0,q<size]=>(
  go_enter Tryz.func165,Tryz.ntmps165
  go_wp2_with(go_at_call 177;((with_reducible refine HW.out.mono ?_);rintro e w' ⟨rfl,rfl⟩))
  go_returns
  unfold RetTwo
  rw[HT.out]
  first|(rw[if_pos (by omega)];exact⟨rfl,Below.refl _ _⟩)|(rw[if_neg (by omega)];exact⟨rfl,Below.refl _ _⟩))
def RetSAB (BB:Nat) (w:World) (r:St× Ans) (e:Ending) (w':World):Prop:= ∃q,e= .returned (.tuple #[Raw.agg q,r.2.agg])∧StAt w' BB q r.1∧Below w.heap.size w w'
theorem cellsAns0 {w:World} {b:Nat} {t:Ans} (h:w.rangeAt b 0 t.cells):w.cell? ⟨b,0,none⟩=some (.int .i64 t.e)∧w.cell? ⟨b,1,none⟩=some (.int .i64 t.rate)∧w.cell? ⟨b,2,none⟩=some (.int .i64 t.burst)∧w.cell? ⟨b,3,none⟩=some (.int .i64 t.lease)∧w.cell? ⟨b,4,none⟩=some (.int .i64 t.size):=by
 have h0:=h 0 _ rfl
 have h1:=h 1 _ rfl
 have h2:=h 2 _ rfl
 have h3:=h 3 _ rfl
 have h4:=h 4 _ rfl
 simp only[Nat.zero_add]at h0 h1 h2 h3 h4
 exact⟨h0,h1,h2,h3,h4⟩
theorem findT_ten {ts:List Tenant} {id:Int} {x:Tenant} (ht:tensOk 0 ts=true) (h:findT ts id=(x,true)):0≤ x.bucket∧x.bucket≤ 1000000000:=by
 rw[findT_eq id ht]at h
 cases hf:findO ts id with
 |none=> rw[hf]at h;cases h
 |some y=>
  rw[hf]at h
  simp only[Prod.mk.injEq,and_true]at h
  subst h
  have:=ten_range ht (findO_mem hf).1
  omega
theorem takeI_ways (b sz:Int):takeI b sz=(0,170)∨takeI b sz=(b-1000* sz,0):=by
 unfold takeI;split
 ·exact .inl rfl
 ·exact .inr rfl
theorem el_leas:Elem Tryz.prog 23 59 7 56:=layLea.elem Tryz.underlying23
theorem setS_len (ts:List Tenant) (x:Tenant):(setS ts x).1.length≤ts.length+ 1:=by
 unfold setS
 split
 ·exact withL_length x ts
 ·simp
set_option maxHeartbeats 16000000 in
theorem apply_bad (s:St) (r:Raw) (x:WEnt) (px:PEnt) (w:World) (h:StAt w 0 r s) (hsm:Small s) (hbad:stateOk s=false∨ x.term<1∨ x.stamp<0∨ x.kind<0∨ 2<x.kind):
 Calls Tryz.prog 15 #[r.agg,valEnt x px] w (RetSAB w.heap.size w (s,Ans.err 2)):=by
 obtain⟨hsm1,hsm2,hsm3,hsm4⟩:=hsm
 obtain⟨t1,t2,t3,⟨a1,n1,c1⟩,⟨a2,n2,c2⟩,⟨a3,n3,c3⟩,⟨a4,n4,c4⟩⟩:=r
 unfold valEnt
 have HBx:Hid (Below w.heap.size w ((((w.alloc (.cells #[.int .i64 t1,.int .i64 t2,.int .i64 t3,.slice a1 n1 c1,.slice a2 n2 c2,.slice a3 n3 c3,.slice a4 n4 c4] 27)).alloc (.cells #[.int .i64 x.term,.int .i8 x.kind,.int .i64 x.stamp,B x.set,.slice px.1 x.data.length px.2] 45)).alloc (.cells #[.int .i64 0,.int .i64 0,.int .i64 0,.slice none 0 0,.slice none 0 0,.slice none 0 0,.slice none 0 0] 27)).alloc (.cells #[.int .i64 0,.int .i64 0,.int .i64 0,.int .i64 0,.int .i64 0] 40))):=mid_alloc' (mid_alloc' (mid_alloc' (mid_alloc' (Below.refl _ _))))
 have HGx:Hid (Bex ((((w.alloc (.cells #[.int .i64 t1,.int .i64 t2,.int .i64 t3,.slice a1 n1 c1,.slice a2 n2 c2,.slice a3 n3 c3,.slice a4 n4 c4] 27)).alloc (.cells #[.int .i64 x.term,.int .i8 x.kind,.int .i64 x.stamp,B x.set,.slice px.1 x.data.length px.2] 45)).alloc (.cells #[.int .i64 0,.int .i64 0,.int .i64 0,.slice none 0 0,.slice none 0 0,.slice none 0 0,.slice none 0 0] 27)).alloc (.cells #[.int .i64 0,.int .i64 0,.int .i64 0,.int .i64 0,.int .i64 0] 40)) w.heap.size (Raw.cells ⟨t1,t2,t3,⟨a1,n1,c1⟩,⟨a2,n2,c2⟩,⟨a3,n3,c3⟩,⟨a4,n4,c4⟩⟩)):=Bex.of_alloc (w:=w) (mid_alloc' (mid_alloc' (mid_alloc' (Below.refl _ _))))
 have HEx:Hid (Bex ((((w.alloc (.cells #[.int .i64 t1,.int .i64 t2,.int .i64 t3,.slice a1 n1 c1,.slice a2 n2 c2,.slice a3 n3 c3,.slice a4 n4 c4] 27)).alloc (.cells #[.int .i64 x.term,.int .i8 x.kind,.int .i64 x.stamp,B x.set,.slice px.1 x.data.length px.2] 45)).alloc (.cells #[.int .i64 0,.int .i64 0,.int .i64 0,.slice none 0 0,.slice none 0 0,.slice none 0 0,.slice none 0 0] 27)).alloc (.cells #[.int .i64 0,.int .i64 0,.int .i64 0,.int .i64 0,.int .i64 0] 40)) (w.heap.size+1) (cellsEnt x px)):=by
  have:=Bex.of_alloc (w:=w.alloc (.cells #[.int .i64 t1,.int .i64 t2,.int .i64 t3,.slice a1 n1 c1,.slice a2 n2 c2,.slice a3 n3 c3,.slice a4 n4 c4] 27)) (cs:=cellsEnt x px) (t:=45) (mid_alloc' (mid_alloc' (Below.refl _ _)):Below _ _ ((((w.alloc (.cells #[.int .i64 t1,.int .i64 t2,.int .i64 t3,.slice a1 n1 c1,.slice a2 n2 c2,.slice a3 n3 c3,.slice a4 n4 c4] 27)).alloc (.cells #[.int .i64 x.term,.int .i8 x.kind,.int .i64 x.stamp,B x.set,.slice px.1 x.data.length px.2] 45)).alloc (.cells #[.int .i64 0,.int .i64 0,.int .i64 0,.slice none 0 0,.slice none 0 0,.slice none 0 0,.slice none 0 0] 27)).alloc (.cells #[.int .i64 0,.int .i64 0,.int .i64 0,.int .i64 0,.int .i64 0] 40)))
  rw[World.size_alloc]at this;exact this
 have HRx:Hid (Bex ((((w.alloc (.cells #[.int .i64 t1,.int .i64 t2,.int .i64 t3,.slice a1 n1 c1,.slice a2 n2 c2,.slice a3 n3 c3,.slice a4 n4 c4] 27)).alloc (.cells #[.int .i64 x.term,.int .i8 x.kind,.int .i64 x.stamp,B x.set,.slice px.1 x.data.length px.2] 45)).alloc (.cells #[.int .i64 0,.int .i64 0,.int .i64 0,.slice none 0 0,.slice none 0 0,.slice none 0 0,.slice none 0 0] 27)).alloc (.cells #[.int .i64 0,.int .i64 0,.int .i64 0,.int .i64 0,.int .i64 0] 40)) (w.heap.size+1+ 1) (Raw.cells ⟨0,0,0,⟨none,0,0⟩,⟨none,0,0⟩,⟨none,0,0⟩,⟨none,0,0⟩⟩)):=by
  have:=Bex.of_alloc (w:=(w.alloc (.cells #[.int .i64 t1,.int .i64 t2,.int .i64 t3,.slice a1 n1 c1,.slice a2 n2 c2,.slice a3 n3 c3,.slice a4 n4 c4] 27)).alloc (.cells #[.int .i64 x.term,.int .i8 x.kind,.int .i64 x.stamp,B x.set,.slice px.1 x.data.length px.2] 45)) (cs:=Raw.cells ⟨0,0,0,⟨none,0,0⟩,⟨none,0,0⟩,⟨none,0,0⟩,⟨none,0,0⟩⟩) (t:=27) (mid_alloc' (Below.refl _ _):Below _ _ ((((w.alloc (.cells #[.int .i64 t1,.int .i64 t2,.int .i64 t3,.slice a1 n1 c1,.slice a2 n2 c2,.slice a3 n3 c3,.slice a4 n4 c4] 27)).alloc (.cells #[.int .i64 x.term,.int .i8 x.kind,.int .i64 x.stamp,B x.set,.slice px.1 x.data.length px.2] 45)).alloc (.cells #[.int .i64 0,.int .i64 0,.int .i64 0,.slice none 0 0,.slice none 0 0,.slice none 0 0,.slice none 0 0] 27)).alloc (.cells #[.int .i64 0,.int .i64 0,.int .i64 0,.int .i64 0,.int .i64 0] 40)))
  rw[World.size_alloc,World.size_alloc]at this;exact this
 have HAx:Hid (Bex ((((w.alloc (.cells #[.int .i64 t1,.int .i64 t2,.int .i64 t3,.slice a1 n1 c1,.slice a2 n2 c2,.slice a3 n3 c3,.slice a4 n4 c4] 27)).alloc (.cells #[.int .i64 x.term,.int .i8 x.kind,.int .i64 x.stamp,B x.set,.slice px.1 x.data.length px.2] 45)).alloc (.cells #[.int .i64 0,.int .i64 0,.int .i64 0,.slice none 0 0,.slice none 0 0,.slice none 0 0,.slice none 0 0] 27)).alloc (.cells #[.int .i64 0,.int .i64 0,.int .i64 0,.int .i64 0,.int .i64 0] 40)) (w.heap.size+1+ 1+1) zAns.cells):=by
  have:=ans_new (((w.alloc (.cells #[.int .i64 t1,.int .i64 t2,.int .i64 t3,.slice a1 n1 c1,.slice a2 n2 c2,.slice a3 n3 c3,.slice a4 n4 c4] 27)).alloc (.cells #[.int .i64 x.term,.int .i8 x.kind,.int .i64 x.stamp,B x.set,.slice px.1 x.data.length px.2] 45)).alloc (.cells #[.int .i64 0,.int .i64 0,.int .i64 0,.slice none 0 0,.slice none 0 0,.slice none 0 0,.slice none 0 0] 27))
  rw[World.size_alloc,World.size_alloc,World.size_alloc]at this;exact this
 have HSx:Hid (StAt ((((w.alloc (.cells #[.int .i64 t1,.int .i64 t2,.int .i64 t3,.slice a1 n1 c1,.slice a2 n2 c2,.slice a3 n3 c3,.slice a4 n4 c4] 27)).alloc (.cells #[.int .i64 x.term,.int .i8 x.kind,.int .i64 x.stamp,B x.set,.slice px.1 x.data.length px.2] 45)).alloc (.cells #[.int .i64 0,.int .i64 0,.int .i64 0,.slice none 0 0,.slice none 0 0,.slice none 0 0,.slice none 0 0] 27)).alloc (.cells #[.int .i64 0,.int .i64 0,.int .i64 0,.int .i64 0,.int .i64 0] 40)) 0 ⟨t1,t2,t3,⟨a1,n1,c1⟩,⟨a2,n2,c2⟩,⟨a3,n3,c3⟩,⟨a4,n4,c4⟩⟩ s):=h.below HBx.out
 have hb':x.term< 1∨(¬x.term< 1∧x.stamp< 0)∨(¬x.term< 1∧¬x.stamp< 0∧x.kind< 0)∨(¬x.term< 1∧¬x.stamp< 0∧¬x.kind< 0∧2< x.kind)∨(¬x.term< 1∧¬x.stamp< 0∧¬x.kind< 0∧¬2< x.kind∧stateOk s=false):=by
  by_cases e1:x.term< 1
  ·exact .inl e1
  by_cases e2:x.stamp< 0
  ·exact .inr (.inl ⟨e1,e2⟩)
  by_cases e3:x.kind< 0
  ·exact .inr (.inr (.inl ⟨e1,e2,e3⟩))
  by_cases e4:2< x.kind
  ·exact .inr (.inr (.inr (.inl ⟨e1,e2,e3,e4⟩)))
  ·exact .inr (.inr (.inr (.inr ⟨e1,e2,e3,e4,by rcases hbad with h1|h1| h1|h1| h1;exact h1;all_goals omega⟩)))
 clear hbad
 clear h
 go_enter Tryz.func15,Tryz.ntmps15
 go_upto_region 1 with fail
 obtain⟨w1,hw1⟩:∃y,y=((((w.alloc (.cells #[.int .i64 t1,.int .i64 t2,.int .i64 t3,.slice a1 n1 c1,.slice a2 n2 c2,.slice a3 n3 c3,.slice a4 n4 c4] 27)).alloc (.cells #[.int .i64 x.term,.int .i8 x.kind,.int .i64 x.stamp,B x.set,.slice px.1 x.data.length px.2] 45)).alloc (.cells #[.int .i64 0,.int .i64 0,.int .i64 0,.slice none 0 0,.slice none 0 0,.slice none 0 0,.slice none 0 0] 27)).alloc (.cells #[.int .i64 0,.int .i64 0,.int .i64 0,.int .i64 0,.int .i64 0] 40)):=⟨_,rfl⟩
 rw[←hw1]at HBx HGx HEx HRx HAx HSx ⊢
 have hz1:w.heap.size+ 1+1+ 1<w1.heap.size:= HAx.out.lt
 clear hw1
 have k0:=HEx.out.box.cell (j:=0) rfl
 go_upto_region 2 with(first|((with_reducible refine at_load 27 (.tmp 2) ?_);refine wpList_load_as laySt rfl (.tmp 2) rfl w.heap.size 0 rfl ⟨t1,t2,t3,⟨a1,n1,c1⟩,⟨a2,n2,c2⟩,⟨a3,n3,c3⟩,⟨a4,n4,c4⟩⟩ (.agg #[.int .i64 t1,.int .i64 t2,.int .i64 t3,.slice a1 n1 c1,.slice a2 n2 c2,.slice a3 n3 c3,.slice a4 n4 c4]) rfl HGx.out.box.range ?_)|(go_at_call 22;((with_reducible refine(own_any s _ 0 w1 HSx.out (by omega) (by omega) (by omega) (by omega)).mono ?_);rintro e w2 ⟨⟨u1,u2,u3,⟨b1,m1,d1⟩,⟨b2,m2,d2⟩,⟨b3,m3,d3⟩,⟨b4,m4,d4⟩⟩,rfl,hst,hb⟩;have HN:=Lib.hid (StAt.mono (B':=w.heap.size) hst (by omega));replace HBx:=Lib.hid (HBx.out.trans (hb.mono HBx.out.size));replace HGx:=Lib.hid (HGx.out.next hb);replace HEx:=Lib.hid (HEx.out.next hb);replace HRx:=Lib.hid (HRx.out.next hb);replace HAx:=Lib.hid (HAx.out.next hb);clear hst hb HSx))|((with_reducible refine at_store 27 (.tmp 2) (.tmp 13) ?_);refine wpList_store_bex laySt rfl (.tmp 2) (.tmp 13) rfl w.heap.size ⟨u1,u2,u3,⟨b1,m1,d1⟩,⟨b2,m2,d2⟩,⟨b3,m3,d3⟩,⟨b4,m4,d4⟩⟩ _ rfl rfl HGx.out rfl ?_;intro w3 hx hw;have HSx:=Lib.hid (HN.out.wrote HGx.out (misfits_st _) hw);replace HBx:=Lib.hid (HBx.out.trans (hw.below _ (Nat.le_refl _)));replace HGx:=Lib.hid hx;replace HEx:=Lib.hid (HEx.out.wrote hw (by omega));replace HRx:=Lib.hid (HRx.out.wrote hw (by omega));replace HAx:=Lib.hid (HAx.out.wrote hw (by omega));clear hx hw HN k0))
 have hz3:w.heap.size+ 1+1+ 1<w3.heap.size:= HAx.out.lt
 have k0:=HEx.out.box.cell (j:=0) rfl
 have k1:=HEx.out.box.cell (j:=1) rfl
 have k2:=HEx.out.box.cell (j:=2) rfl
 rcases hb' with e1|⟨e1,e2⟩|⟨e1,e2,e3⟩|⟨e1,e2,e3,e4⟩|⟨e1,e2,e3,e4,e5⟩
 iterate 4
  ·skip
   go_wp2_with(first|((with_reducible refine at_load 27 (.tmp 2) ?_);refine wpList_load_as laySt rfl (.tmp 2) rfl w.heap.size 0 rfl ⟨u1,u2,u3,⟨b1,m1,d1⟩,⟨b2,m2,d2⟩,⟨b3,m3,d3⟩,⟨b4,m4,d4⟩⟩ (.agg #[.int .i64 u1,.int .i64 u2,.int .i64 u3,.slice b1 m1 d1,.slice b2 m2 d2,.slice b3 m3 d3,.slice b4 m4 d4]) rfl HGx.out.box.range ?_)|((with_reducible refine at_store 27 (.tmp 4) (.tmp 37) ?_);refine wpList_store_bex laySt rfl (.tmp 4) (.tmp 37) rfl (w.heap.size+1+ 1) ⟨u1,u2,u3,⟨b1,m1,d1⟩,⟨b2,m2,d2⟩,⟨b3,m3,d3⟩,⟨b4,m4,d4⟩⟩ _ rfl rfl HRx.out rfl ?_;intro wy hx hw;have HSy:=Lib.hid (HSx.out.wrote HRx.out (misfits_st _) hw);have HRy:=Lib.hid hx;have HAy:=Lib.hid (HAx.out.wrote hw (by omega));have HBy:=Lib.hid (HBx.out.trans (hw.below _ (by omega)));clear hx hw)|((with_reducible refine at_store 40 (.tmp 5) (.tmp 38) ?_);refine wpList_store_bex layAns rfl (.tmp 5) (.tmp 38) rfl (w.heap.size+1+ 1+1) (Ans.err 2) _ rfl rfl HAy.out rfl ?_;intro wz hx hw;have HSz:=Lib.hid (HSy.out.wrote HAy.out (misfits_ans _) hw);have HRz:=Lib.hid (HRy.out.wrote hw (by omega));have HAz:=Lib.hid hx;have HBz:=Lib.hid (HBy.out.trans (hw.below _ (by omega)));clear hx hw))
   obtain⟨z0,z1,z2,z3,z4,z5,z6⟩:=cellsSt0 HRz.out.box.range
   obtain⟨j0,j1,j2,j3,j4⟩:=ans_cells HAz.out
   refine bodyPost_ret (v:= .tuple #[Raw.agg ⟨u1,u2,u3,⟨b1,m1,d1⟩,⟨b2,m2,d2⟩,⟨b3,m3,d3⟩,⟨b4,m4,d4⟩⟩,Ans.agg (Ans.err 2)]) (by simp[results,Tryz.results15,Ans.err,go_sem,z0,z1,z2,z3,z4,z5,z6,j0,j1,j2,j3,j4]) rfl ?_
   exact⟨_,rfl,HSz.out,HBz.out⟩
 ·have HOK:=Lib.hid e5
  have q1:decide (x.term<1)=false:= decide_eq_false (by omega)
  have q2:decide (x.stamp<0)=false:= decide_eq_false (by omega)
  have q3:decide (x.kind<0)=false:= decide_eq_false (by omega)
  have q4:decide (2<x.kind)=false:= decide_eq_false (by omega)
  clear e1 e2 e3 e4 e5
  go_wp2_with(first|(go_at_call 21;((with_reducible refine(check_sta s _ _ w3 HSx.out (by omega) (by omega) (by omega) (by omega)).mono ?_);rw[HOK.out];rintro e w4 ⟨rfl,hb⟩;replace HBx:=Lib.hid (HBx.out.trans (hb.mono HBx.out.size));replace HGx:=Lib.hid (HGx.out.next hb);replace HEx:=Lib.hid (HEx.out.next hb);replace HRx:=Lib.hid (HRx.out.next hb);replace HAx:=Lib.hid (HAx.out.next hb);replace HSx:=Lib.hid (HSx.out.below hb);have hz4:=hb.size;clear hb k0 k1 k2))|((with_reducible refine at_load 27 (.tmp 2) ?_);refine wpList_strip (by rfl) ?_;refine wpList_load_as laySt rfl (.tmp 2) rfl w.heap.size 0 rfl ⟨u1,u2,u3,⟨b1,m1,d1⟩,⟨b2,m2,d2⟩,⟨b3,m3,d3⟩,⟨b4,m4,d4⟩⟩ (.agg #[.int .i64 u1,.int .i64 u2,.int .i64 u3,.slice b1 m1 d1,.slice b2 m2 d2,.slice b3 m3 d3,.slice b4 m4 d4]) rfl HGx.out.box.range ?_)|((with_reducible refine at_load 27 (.tmp 2) ?_);refine wpList_load_as laySt rfl (.tmp 2) rfl w.heap.size 0 rfl ⟨u1,u2,u3,⟨b1,m1,d1⟩,⟨b2,m2,d2⟩,⟨b3,m3,d3⟩,⟨b4,m4,d4⟩⟩ (.agg #[.int .i64 u1,.int .i64 u2,.int .i64 u3,.slice b1 m1 d1,.slice b2 m2 d2,.slice b3 m3 d3,.slice b4 m4 d4]) rfl HGx.out.box.range ?_)|((with_reducible refine at_store 27 (.tmp 4) (.tmp 37) ?_);refine wpList_store_bex laySt rfl (.tmp 4) (.tmp 37) rfl (w.heap.size+1+ 1) ⟨u1,u2,u3,⟨b1,m1,d1⟩,⟨b2,m2,d2⟩,⟨b3,m3,d3⟩,⟨b4,m4,d4⟩⟩ _ rfl rfl HRx.out rfl ?_;intro wy hx hw;have HSy:=Lib.hid (HSx.out.wrote HRx.out (misfits_st _) hw);have HRy:=Lib.hid hx;have HAy:=Lib.hid (HAx.out.wrote hw (by omega));have HBy:=Lib.hid (HBx.out.trans (hw.below _ (by omega)));clear hx hw)|((with_reducible refine at_store 40 (.tmp 5) (.tmp 38) ?_);refine wpList_store_bex layAns rfl (.tmp 5) (.tmp 38) rfl (w.heap.size+1+ 1+1) (Ans.err 2) _ rfl rfl HAy.out rfl ?_;intro wz hx hw;have HSz:=Lib.hid (HSy.out.wrote HAy.out (misfits_ans _) hw);have HRz:=Lib.hid (HRy.out.wrote hw (by omega));have HAz:=Lib.hid hx;have HBz:=Lib.hid (HBy.out.trans (hw.below _ (by omega)));clear hx hw))
  obtain⟨z0,z1,z2,z3,z4,z5,z6⟩:=cellsSt0 HRz.out.box.range
  obtain⟨j0,j1,j2,j3,j4⟩:=ans_cells HAz.out
  refine bodyPost_ret (v:= .tuple #[Raw.agg ⟨u1,u2,u3,⟨b1,m1,d1⟩,⟨b2,m2,d2⟩,⟨b3,m3,d3⟩,⟨b4,m4,d4⟩⟩,Ans.agg (Ans.err 2)]) (by simp[results,Tryz.results15,Ans.err,go_sem,z0,z1,z2,z3,z4,z5,z6,j0,j1,j2,j3,j4]) rfl ?_
  exact⟨_,rfl,HSz.out,HBz.out⟩
def RetSweepX (w:World) (B g:Nat) (r0:Raw) (s:St) (e:Ending) (w':World):Prop:= e= .returned (.tuple #[])∧∃r,Box w' g (Raw.cells r)∧StAt w' B r (sweptS s)∧Below g w w'∧Only g w w'∧r.lea= r0.lea∧r.ses= r0.ses∧r.dsk= r0.dsk∧Near w.heap.size r0.ten.a r.ten.a
theorem sweep_finX {w w3 w5 w7:World} {B g:Nat} {term stamp next:Int} {a1 a2 a3 a4 x1:Option Addr} {n1 c1 n2 c2 n3 c3 n4 c4 y1:Nat} {s:St} {l:List Tenant}
 (h:StAt w B ⟨term,stamp,next,⟨a1,n1,c1⟩,⟨a2,n2,c2⟩,⟨a3,n3,c3⟩,⟨a4,n4,c4⟩⟩ s) (hg:g< B) (hB:B≤ w.heap.size) (hl:sweepS s.tens (outsL s.leas)=l)
 (b3:Below w.heap.size w w3) (b5:Below w3.heap.size w3 w5) (hbox:Box w5 g (Raw.cells ⟨term,stamp,next,⟨a1,n1,c1⟩,⟨a2,n2,c2⟩,⟨a3,n3,c3⟩,⟨a4,n4,c4⟩⟩)) (hle:l.length≤ y1) (hnil:x1= none→y1= 0) (hnear:Near w3.heap.size a1 x1) (hrow:TRow w5 x1 l)
 (h7:w7= w5.setCell ⟨g,3,none⟩ (.slice x1 l.length y1)):RetSweepX w B g ⟨term,stamp,next,⟨a1,n1,c1⟩,⟨a2,n2,c2⟩,⟨a3,n3,c3⟩,⟨a4,n4,c4⟩⟩ s (.returned (.tuple #[])) w7:=by
 have s3:=b3.size
 have b5':Below w.heap.size w w5:=b3.trans (b5.mono s3)
 have m7:Mid B w.heap.size w w7:=by rw[h7];exact(Mid.below b5' (Nat.le_refl _)).setCell _ _ (.inl hg)
 refine⟨rfl,⟨term,stamp,next,⟨x1,l.length,y1⟩,⟨a2,n2,c2⟩,⟨a3,n3,c3⟩,⟨a4,n4,c4⟩⟩,by rw[h7];exact hbox.set (i:=3) (by simp) _,?_,?_,?_,rfl,rfl,rfl,hnear.mono s3⟩
 ·have hnr:Near B none x1:=h.ten.near.trans (hnear.mono (by omega))
  refine⟨h.term,h.stamp,h.next,⟨by unfold sweptS;rw[←hl],hle,hnil,hnr,?_⟩,h.lea.mid m7 (Nat.le_refl _) (Nat.le_refl _),h.ses.mid m7 (Nat.le_refl _) (Nat.le_refl _),h.dsk.mid m7 (Nat.le_refl _) (Nat.le_refl _)⟩
  show LRow layTen w7 x1 (sweepS s.tens (outsL s.leas))
  rw[hl,h7]
  exact Row.setOther hrow (fun b o q e=>by rcases hnr b o q e with h1|⟨_,_,h1⟩;show b≠g;omega;cases h1) _
 ·rw[h7]
  exact(b5'.mono (by omega)).setCell (p:=⟨g,3,none⟩) (Nat.le_refl g) _
 ·rw[h7]
  exact(Only.of b5').put (fun B hB=>(Below.refl B w5).setCell (p:=⟨g,3,none⟩) hB _) (fun k hk=>Below.heap_setCell _ _ _ _ (fun e=>hk e))
set_option maxHeartbeats 4000000 in
theorem sweep_stX (s:St) (r:Raw) (B g:Nat) (w:World) (hbox:Box w g r.cells) (h:StAt w B r s) (hg:g< B) (hB:B≤ w.heap.size) (hfit:Fits s.leas) (hl1:s.tens.length≤ 900) (hl2:s.leas.length≤ 900):
 Calls Tryz.prog 56 #[.pointer (some ⟨g,0,none⟩)] w (RetSweepX w B g r s):=by
 obtain⟨term,stamp,next,⟨a1,n1,c1⟩,⟨a2,n2,c2⟩,⟨a3,n3,c3⟩,⟨a4,n4,c4⟩⟩:=r
 have HFIN:=Lib.hid (fun l (hl:sweepS s.tens (outsL s.leas)=l) {w3 w5 w7} b3 b5 hbx {x1 y1} hle hnil hnear hrow h7=>sweep_finX (w3:=w3) (w5:=w5) (w7:=w7) (x1:=x1) (y1:=y1) (l:=l) h hg hB hl b3 b5 hbx hle hnil hnear hrow h7)
 have H1:=Lib.hid h.ten
 have H2:=Lib.hid h.lea
 have HBX:=Lib.hid hbox
 have HG:Hid (g<w.heap.size):=Nat.lt_of_lt_of_le hg hB
 have hout:=Lib.hid (outs_any s.leas ⟨term,stamp,next,⟨a1,n1,c1⟩,⟨a2,n2,c2⟩,⟨a3,n3,c3⟩,⟨a4,n4,c4⟩⟩ w h.lea.len (by omega) hfit h.lea.row)
 have HSW:=Lib.hid (fun b m d w' (hb:Below w.heap.size w w') (hm:(outsL s.leas).length=m) (hro:Row w' b ((outsL s.leas).map (Value.int .i64)))=>sweep_any s.tens (outsL s.leas) a1 b n1 c1 m d w' h.ten.len hm hl1 (by rw[←hm,outsL_length];omega) h.ten.nil h.ten.le (Row.below h.trow hb) hro)
 have HLN:=Lib.hid (sweepS_length s.tens (outsL s.leas))
 clear h hbox hfit
 obtain⟨⟨k0,k1,k2,k3,k4,k5,k6⟩,⟨z0,z1,z2,z3,z4,z5,z6⟩,zz⟩:=HBX.out.st
 simp only at k0 k1 k2 k3 k4 k5 k6
 go_enter Tryz.func56,Tryz.ntmps56
 go_wp2_with(first|(refine wpList_load_as laySt rfl (.tmp 6) rfl g 0 rfl ⟨term,stamp,next,⟨a1,n1,c1⟩,⟨a2,n2,c2⟩,⟨a3,n3,c3⟩,⟨a4,n4,c4⟩⟩ (.agg #[.int .i64 term,.int .i64 stamp,.int .i64 next,.slice a1 n1 c1,.slice a2 n2 c2,.slice a3 n3 c3,.slice a4 n4 c4]) rfl HBX.out.range ?_)|(go_at_call 58;((with_reducible refine hout.out.mono ?_);rintro e w2 ⟨mb,mn,mf,rfl,hmap,hb2⟩;have HMAP:=Lib.hid hmap;clear hmap)))
 clear k0 k1 k2 k3 k4 k5 k6 z0 z1 z2 z3 z4 z5 z6
 go_loopw [3,4] (fun l i wr=>∃k: Nat,∃a c,k≤16∧ i= .int .i64 ((k:Int)+1)∧l= .slice a k c∧Hid (wr.ownsRow w.heap.size 3 1 (.slice a k c) k ((outsK s.leas k).map (Value.int .i64)))∧Below w.heap.size w wr∧Hid (OutMap wr w.heap.size mb mn mf s.leas)) (fun _ i _=>17- (intOf i).toNat)
 case atStart=>exact ⟨0,none,0,by omega,rfl,rfl,World.ownsRow_nil _ _ _ _,hb2,HMAP.out⟩
 case round=>
  obtain⟨k,a,c,hk,rfl,rfl,hown,hb,hmap⟩:=hrel
  by_cases hlt:k< 16
  ·have hlt':((k:Int)+1≤ 16):=by omega
   have HZ:Hid ((mf ((k:Int)+1)).getD 0=outL s.leas ((k:Int)+1)):=hmap.out.out _
   have HS:=Lib.hid (outsK_succ s.leas k)
   have HW:Hid ((Lit.int .i64 ((k:Int)+1)).wf=true):=wf_sm (by omega) (by omega)
   generalize outL s.leas ((k:Int)+1)=z at HZ HS
   go_wp2_with(first|(refine wpList_getI keyI Tryz.underlying100 Tryz.underlying3 zero_i rfl (.tmp 14) (.tmp 15) rfl mb mn mf rfl hmap.out.map ((k:Int)+1) HW.out rfl ?_;rw[HZ.out])|(at_builtin;refine wpList_app el_ints rfl _ _ rfl w.heap.size _ k _ rfl (hown.out.alloc _) (some ⟨wr.heap.size,0,none⟩) 1 1 [.int .i64 z] rfl rfl (Row.new _ _ _ _) (by intro u hu;simp at hu;subst hu;rfl) (by omega) (by have:=hb.size;simp;omega) ?_;intro a2 c2 w4 hown4 hg4;have hb4:=Below.app (hb.alloc hb.size _) (hown.out.alloc _) hg4 (by have:=hb.size;simp;omega);have HM4:=Lib.hid (hmap.out.app hown.out hg4);have HO4:=Lib.hid hown4;clear hg4 hown4))
   go_roundw
   case rel=>exact ⟨k+1,a2,c2,by omega,by go_num,rfl,by show World.ownsRow _ _ _ _ _ _ _;rw[HS.out,List.map_append];exact HO4.out,hb4,HM4.out⟩
   case measure=>simp [intOf];omega
  ·obtain rfl:k= 16:=by omega
   have HBR:=Lib.hid (HBX.out.below hb HG.out)
   obtain⟨⟨k0,k1,k2,k3,k4,k5,k6⟩,⟨z0,z1,z2,z3,z4,z5,z6⟩,zz⟩:=HBR.out.st
   simp only at k0 k1 k2 k3 k4 k5 k6
   go_wp2_with(go_at_call 97;((with_reducible refine(HSW.out a 16 c wr hb (outsL_length _) (by rw[←outsK_all];exact own_row hown.out)).mono ?_);generalize hres:sweepS s.tens (outsL s.leas)=res;have HRES:=Lib.hid hres;clear hres;rintro e w5 ⟨x1,y1,rfl,hle5,hnil5,hnear5,hrow5,hb5⟩;have K5:=Lib.hid (And.intro hle5 (And.intro hnil5 (And.intro hnear5 hrow5)));clear hle5 hnil5 hnear5 hrow5;have B5:=Lib.hid (HBR.out.next (by simp) hb5);obtain⟨⟨k0,k1,k2,k3,k4,k5,k6⟩,⟨z0,z1,z2,z3,z4,z5,z6⟩,zz⟩:=B5.out.st;simp only at k0 k1 k2 k3 k4 k5 k6))
   go_end0
   exact HFIN.out res HRES.out hb hb5 B5.out K5.out.1 K5.out.2.1 K5.out.2.2.1 K5.out.2.2.2 rfl
def DefSweepX (w:World) (B g:Nat) (r0:Raw) (s:St) (u:FrameMode) (e:Ending) (u':FrameMode) (w':World):Prop:= u'=u∧ RetSweepX w B g r0 s e w'
theorem grant1_dX (B g:Nat) (r0:Raw) (s:St) (u:FrameMode) (w:World) (h:Calls Tryz.prog 56 #[.pointer (some ⟨g,0,none⟩)] w (RetSweepX w B g r0 s)):CallsD Tryz.prog 164 #[.pointer (some ⟨g,0,none⟩)] u w (DefSweepX w B g r0 s u):=by
 go_enter_d Tryz.func164,Tryz.ntmps164
 go_wp2_with(go_at_call 56;((with_reducible refine h.mono ?_);rintro e w' ⟨rfl,hh⟩))
 go_end0
 first|exact ⟨rfl,rfl,hh⟩|exact ⟨rfl,hh⟩|exact hh
theorem door_onlyX {w:World} {B g:Nat} {r0:Raw} {s:St} {fn:Func} {tmps:Array Value} {fid:FuncId} {fv:Fn} {cap:Array Value} {R:Ending→ World→Prop} (hd:CallsD Tryz.prog fid #[.pointer (some ⟨g,0,none⟩)] .returning w (DefSweepX w B g r0 s .returning))
 (hi:(invoke (.fn fv cap) #[]).run Tryz.prog w= .ok (.enter fid #[.pointer (some ⟨g,0,none⟩)]) w)
 (hr:∀w' r,Box w' g (Raw.cells r)→StAt w' B r (sweptS s)→Only g w w'→(r.lea=r0.lea∧ r.ses=r0.ses∧ r.dsk=r0.dsk∧ Near w.heap.size r0.ten.a r.ten.a)→∃v,(results fn tmps).run Tryz.prog w'= .ok v w'∧R (.returned v) w'):
 Leaves Tryz.prog fn tmps R [{target:= .fn fv cap,args:= #[]}] .returning w:=by
 refine leaves_cons (f:=fid) (args:= #[.pointer (some ⟨g,0,none⟩)]) (by simp) hi ?_
 refine hd.mono ?_
 rintro e u' w9 ⟨rfl,rfl,r9,hbx9,hst9,_,ho9,hr9⟩
 exact hr w9 r9 hbx9 hst9 ho9 hr9
def ApD (r:Raw):Prop:= Ap r.ten.a r.dsk.a∧Ap r.lea.a r.dsk.a∧Ap r.ses.a r.dsk.a
theorem ap_near {E:Nat} {a a' b:Option Addr} (h:Near E a a') (ha:Ap a b) (hb:∀x o q,b=some ⟨x,o,q⟩→x< E):Ap a' b:=fun x o q x' o' q' h1 h2=>by
 rcases h x o q h1 with h3|⟨o2,q2,h3⟩
 ·have:=hb x' o' q' h2
  intro e
  have h4:E≤ x:=h3
  omega
 ·exact ha x o2 q2 x' o' q' h3 h2
theorem apd_swept {w9:World} {B:Nat} {r r9:Raw} {s:St} (h:StAt w9 B r s) (hB:0< B) (td:Ap r.ten.a r.dsk.a) (ld:Ap r.lea.a r.dsk.a) (sd:Ap r.ses.a r.dsk.a) (h9:r9.lea= r.lea∧r9.ses= r.ses∧r9.dsk= r.dsk∧Near w9.heap.size r.ten.a r9.ten.a):ApD r9:=by
 obtain⟨e1,e2,e3,hn⟩:=h9
 unfold ApD
 rw[e1,e2,e3]
 exact⟨ap_near hn td (h.dsk.lt hB),ld,sd⟩
def RetCopyX (w:World) (s:St) (e:Ending) (w':World):Prop:= ∃r,e= .returned (Raw.agg r)∧OwnSt w' w.heap.size r s∧Ap r.ses.a r.dsk.a∧Below w.heap.size w w'
theorem copy_finX {w W1 w2 w3 w4 w5 w6 w7 w8:World} {term stamp next:Int} {ts:List Tenant} {ls:List Lease} {ss:List Session} {ds:List Desk} {x1 x2 x3 x4:Option Addr} {y1 y2 y3 y4:Nat}
 (K1:Near W1.heap.size none x1∧Can w2 W1.heap.size 75 layTen.size x1 ts.length y1 (ts.flatMap layTen.cells)∧(0<ts.length→ w2.ownsRow W1.heap.size 75 layTen.size (.slice x1 ts.length y1) ts.length (ts.flatMap layTen.cells))∧∀b o s,x1=some ⟨b,o,s⟩→b< w2.heap.size)
 (K2:Near w2.heap.size none x2∧Can w3 w2.heap.size 59 layLea.size x2 ls.length y2 (ls.flatMap layLea.cells)∧(0<ls.length→ w3.ownsRow w2.heap.size 59 layLea.size (.slice x2 ls.length y2) ls.length (ls.flatMap layLea.cells))∧∀b o s,x2=some ⟨b,o,s⟩→b< w3.heap.size)
 (K3:Near w4.drew.heap.size none x3∧Can w5 w4.drew.heap.size 92 laySes.size x3 ss.length y3 (ss.flatMap laySes.cells)∧(0<ss.length→ w5.ownsRow w4.drew.heap.size 92 laySes.size (.slice x3 ss.length y3) ss.length (ss.flatMap laySes.cells))∧∀b o s,x3=some ⟨b,o,s⟩→b< w5.heap.size)
 (K4:Near w5.heap.size none x4∧Can w6 w5.heap.size 66 layDsk.size x4 ds.length y4 (ds.flatMap layDsk.cells)∧(0<ds.length→ w6.ownsRow w5.heap.size 66 layDsk.size (.slice x4 ds.length y4) ds.length (ds.flatMap layDsk.cells))∧∀b o s,x4=some ⟨b,o,s⟩→b< w6.heap.size)
 (hW:w.heap.size+ 2≤W1.heap.size)
 (b12:Below W1.heap.size W1 w2) (b23:Below w2.heap.size w2 w3) (M4:Mid (w.heap.size+1) w3.heap.size w3 w4) (b45:Below w4.drew.heap.size w4.drew w5) (b56:Below w5.heap.size w5 w6) (M7:Mid (w.heap.size+1) w6.heap.size w6 w7)
 (hk8:∀k,k≠w.heap.size+ 1→w8.heap[k]? =w7.heap[k]?) (hs8:w8.heap.size= w7.heap.size) (hb:Below w.heap.size w w8):
 RetCopyX w ⟨term,stamp,next,ts,ls,ss,ds⟩ (.returned (.agg #[.int .i64 term,.int .i64 stamp,.int .i64 next,.slice x1 ts.length y1,.slice x2 ls.length y2,.slice x3 ss.length y3,.slice x4 ds.length y4])) w8:=by
 have s12:=b12.size
 have s23:=b23.size
 have s34:=M4.size
 have s45:w4.heap.size≤ w5.heap.size:=b45.size
 have s56:=b56.size
 have s67:=M7.size
 have d4:w4.drew.heap.size= w4.heap.size:=rfl
 have m78:∀E,Mid (w.heap.size+2) E w7 w8:=fun E=>(Mid.refl _ _ _).other hk8 hs8 (.inl (by omega))
 have m68:∀E,E≤w6.heap.size→ Mid (w.heap.size+2) E w6 w8:=fun E hE=>(⟨M7.size,fun k h1 h2=>M7.keep k (by omega) (by omega)⟩:Mid (w.heap.size+2) E w6 w7).trans (m78 E)
 have m58:∀E,E≤w5.heap.size→ Mid (w.heap.size+2) E w5 w8:=fun E hE=>(Mid.below b56 hE).trans (m68 E (by omega))
 have m48:∀E,E≤w4.heap.size→ Mid (w.heap.size+2) E w4 w8:=fun E hE=>(⟨b45.size,fun k _ h2=>b45.block k (by omega)⟩:Mid (w.heap.size+2) E w4 w5).trans (m58 E (by omega))
 have m38:∀E,E≤w3.heap.size→ Mid (w.heap.size+2) E w3 w8:=fun E hE=>(⟨M4.size,fun k h1 h2=>M4.keep k (by omega) (by omega)⟩:Mid (w.heap.size+2) E w3 w4).trans (m48 E (by omega))
 have m28:∀E,E≤w2.heap.size→ Mid (w.heap.size+2) E w2 w8:=fun E hE=>(Mid.below b23 hE).trans (m38 E (by omega))
 have S1:=(SliAt.of_clone (L:=layTen) (by decide) K1.1 K1.2.1).mid (m28 _ (Nat.le_refl _)) hW (Nat.le_refl _)
 have S2:=(SliAt.of_clone (L:=layLea) (by decide) K2.1 K2.2.1).mid (m38 _ (Nat.le_refl _)) (by omega) (Nat.le_refl _)
 have S3:=(SliAt.of_clone (L:=laySes) (by decide) K3.1 K3.2.1).mid (m58 _ (Nat.le_refl _)) (by omega) (Nat.le_refl _)
 have S4:=(SliAt.of_clone (L:=layDsk) (by decide) K4.1 K4.2.1).mid (m68 _ (Nat.le_refl _)) (by omega) (Nat.le_refl _)
 have O1:=((⟨K1.2.1,K1.2.2.1⟩:OwnSli layTen w2 W1.heap.size ⟨x1,ts.length,y1⟩ ts).mid K1.1 (m28 _ (Nat.le_refl _)) hW (Nat.le_refl _)).base (B0:=w.heap.size) (by omega)
 have O2:=((⟨K2.2.1,K2.2.2.1⟩:OwnSli layLea w3 w2.heap.size ⟨x2,ls.length,y2⟩ ls).mid K2.1 (m38 _ (Nat.le_refl _)) (by omega) (Nat.le_refl _)).base (B0:=w.heap.size) (by omega)
 have O4:=((⟨K4.2.1,K4.2.2.1⟩:OwnSli layDsk w6 w5.heap.size ⟨x4,ds.length,y4⟩ ds).mid K4.1 (m68 _ (Nat.le_refl _)) (by omega) (Nat.le_refl _)).base (B0:=w.heap.size) (by omega)
 refine⟨⟨term,stamp,next,⟨x1,ts.length,y1⟩,⟨x2,ls.length,y2⟩,⟨x3,ss.length,y3⟩,⟨x4,ds.length,y4⟩⟩,rfl,⟨⟨rfl,rfl,rfl,S1.mono (by omega),S2.mono (by omega),S3.mono (by omega),⟨S4.mono (by omega),fun _=>O4,fun _ x o q e=>by have h1:=K4.2.2.2 x o q e;have h2:=(m68 0 (by omega)).size;omega⟩⟩,O1,O2,Ap.of K1.2.2.2 K2.1 (Nat.le_refl _),Ap.of K1.2.2.2 K3.1 (by omega),Ap.of K1.2.2.2 K4.1 (by omega),Ap.of K2.2.2.2 K3.1 (by omega),Ap.of K2.2.2.2 K4.1 (by omega),fun x o q e=>by have h1:=K2.2.2.2 x o q e;have h2:=(m38 0 (by omega)).size;omega⟩,Ap.of K3.2.2.2 K4.1 (by omega),hb⟩
set_option maxHeartbeats 4000000 in
theorem copied_stX (s:St) (r:Raw) (B:Nat) (w:World) (h:StAt w B r s) (hl1:s.tens.length≤ 900) (hl2:s.leas.length≤ 900) (hl3:s.sess.length≤ 900) (hl4:s.dsks.length≤ 900):
 Calls Tryz.prog 57 #[r.agg] w (RetCopyX w s):=by
 obtain⟨term,stamp,next,⟨a1,n1,c1⟩,⟨a2,n2,c2⟩,⟨a3,n3,c3⟩,⟨a4,n4,c4⟩⟩:=r
 obtain⟨term',stamp',nx,ts,ls,ss,ds⟩:=s
 have hq1:=h.term
 have hq2:=h.stamp
 have hq3:=h.next
 have H1:=Lib.hid h.ten
 have H2:=Lib.hid h.lea
 have H3:=Lib.hid h.ses
 have H4:=Lib.hid h.dsk
 simp only at hq1 hq2 hq3 hl1 hl2 hl3 hl4
 subst hq1
 subst hq2
 subst hq3
 clear h
 have hb1:=Lib.hid (show n1*layTen.bytes≤ 140737488355328 by have:=H1.out.len;show n1*40≤ _;simp only at this;omega)
 have hb2:=Lib.hid (show n2*layLea.bytes≤ 140737488355328 by have:=H2.out.len;show n2*56≤ _;simp only at this;omega)
 have hb3:=Lib.hid (show n3*laySes.bytes≤ 140737488355328 by have:=H3.out.len;show n3*56≤ _;simp only at this;omega)
 have hb4:=Lib.hid (show n4*layDsk.bytes≤ 140737488355328 by have:=H4.out.len;show n4*64≤ _;simp only at this;omega)
 have hm1:=Lib.hid (show n1≤maxLen from le_maxLen (by have:=H1.out.len;simp only at this;omega))
 have hm2:=Lib.hid (show n2≤maxLen from le_maxLen (by have:=H2.out.len;simp only at this;omega))
 have hm3:=Lib.hid (show n3≤maxLen from le_maxLen (by have:=H3.out.len;simp only at this;omega))
 have hm4:=Lib.hid (show n4≤maxLen from le_maxLen (by have:=H4.out.len;simp only at this;omega))
 have C1:=Lib.hid (fun w' (hb:Below w.heap.size w w')=>cloneTen ts a1 n1 c1 w' H1.out.len hb1.out hm1.out H1.out.nil H1.out.le (H1.out.row.below hb))
 have C2:=Lib.hid (fun w' (hb:Below w.heap.size w w')=>cloneLea ls a2 n2 c2 w' H2.out.len hb2.out hm2.out H2.out.nil H2.out.le (H2.out.row.below hb))
 have C3:=Lib.hid (fun w' (hb:Below w.heap.size w w')=>cloneSes ss a3 n3 c3 w' H3.out.len hb3.out hm3.out H3.out.nil H3.out.le (H3.out.row.below hb))
 have C4:=Lib.hid (fun w' (hb:Below w.heap.size w w')=>cloneDsk ds a4 n4 c4 w' H4.out.len hb4.out hm4.out H4.out.nil H4.out.le (H4.out.row.below hb))
 clear hl1 hl2 hl3 hl4
 go_enter Tryz.func57,Tryz.ntmps57
 go_wp2
 have HBX:Hid (∀w',Below ((w.alloc (.cells #[.int .i64 term,.int .i64 stamp,.int .i64 next,.slice a1 n1 c1,.slice a2 n2 c2,.slice a3 n3 c3,.slice a4 n4 c4] 27)).alloc (.cells #[.int .i64 0,.int .i64 0,.int .i64 0,.slice none 0 0,.slice none 0 0,.slice none 0 0,.slice none 0 0] 27)).heap.size ((w.alloc (.cells #[.int .i64 term,.int .i64 stamp,.int .i64 next,.slice a1 n1 c1,.slice a2 n2 c2,.slice a3 n3 c3,.slice a4 n4 c4] 27)).alloc (.cells #[.int .i64 0,.int .i64 0,.int .i64 0,.slice none 0 0,.slice none 0 0,.slice none 0 0,.slice none 0 0] 27)) w'→
  Box w' w.heap.size (Raw.cells ⟨term,stamp,next,⟨a1,n1,c1⟩,⟨a2,n2,c2⟩,⟨a3,n3,c3⟩,⟨a4,n4,c4⟩⟩)∧Box w' (w.heap.size+1) (Raw.cells ⟨0,0,0,⟨none,0,0⟩,⟨none,0,0⟩,⟨none,0,0⟩,⟨none,0,0⟩⟩)):=fun w' hb=>⟨Box.of_alloc (mid_alloc' hb),Box.of_alloc1 hb⟩
 apply cut_here
 ·intro CUT1
  go_region_law (first|(go_simp;go_at_call 98;((with_reducible refine(C1.out _ belo).mono ?_);rintro e w2 ⟨x1,y1,rfl,hnear1,hcan1,hown1,hlt1,hbq1⟩;have K1:=Lib.hid (And.intro hnear1 (And.intro hcan1 (And.intro hown1 hlt1)));clear hnear1 hcan1 hown1 hlt1;have HX2:=Lib.hid (HBX.out w2 belo);obtain⟨⟨k0,k1,k2,k3,k4,k5,k6⟩,⟨z0,z1,z2,z3,z4,z5,z6⟩,zz⟩:=HX2.out.1.st;simp only at k0 k1 k2 k3 k4 k5 k6))|(go_simp;go_at_call 99;((with_reducible refine(C2.out _ belo).mono ?_);rintro e w3 ⟨x2,y2,rfl,hnear2,hcan2,hown2,hlt2,hbq2⟩;have K2:=Lib.hid (And.intro hnear2 (And.intro hcan2 (And.intro hown2 hlt2)));clear hnear2 hcan2 hown2 hlt2;clear k0 k1 k2 k3 k4 k5 k6 z0 z1 z2 z3 z4 z5 z6 zz;have HX3:=Lib.hid (HBX.out w3 belo);obtain⟨⟨k0,k1,k2,k3,k4,k5,k6⟩,⟨z0,z1,z2,z3,z4,z5,z6⟩,zz⟩:=HX3.out.1.st;simp only at k0 k1 k2 k3 k4 k5 k6)))
  all_goals
   obtain⟨w4,hw4⟩:∃x,x=(w3.setCell ⟨w.heap.size,3,none⟩ (.slice x1 ts.length y1)).setCell ⟨w.heap.size,4,none⟩ (.slice x2 ls.length y2):=⟨_,rfl⟩
   rw[←hw4]
   have B4:=Lib.hid (show Box w4 w.heap.size (Raw.cells ⟨term,stamp,next,⟨x1,ts.length,y1⟩,⟨x2,ls.length,y2⟩,⟨a3,n3,c3⟩,⟨a4,n4,c4⟩⟩) by rw[hw4];exact(HX3.out.1.set (i:=3) (by simp) _).set (i:=4) (by simp) _)
   have Z4:=Lib.hid (show Box w4 (w.heap.size+1) (Raw.cells ⟨0,0,0,⟨none,0,0⟩,⟨none,0,0⟩,⟨none,0,0⟩,⟨none,0,0⟩⟩) by rw[hw4];exact(HX3.out.2.far (by simp) _).far (by simp) _)
   have M4:=Lib.hid (show Mid (w.heap.size+1) w3.heap.size w3 w4 by rw[hw4];exact((Mid.refl _ _ _).setCell _ _ (.inl (by simp))).setCell _ _ (.inl (by simp)))
   have b34:Below w.heap.size w3 w4:=by rw[hw4];exact((Below.refl w.heap.size w3).setCell (p:=⟨w.heap.size,3,none⟩) (Nat.le_refl w.heap.size) _).setCell (p:=⟨w.heap.size,4,none⟩) (Nat.le_refl w.heap.size) _
   have b4:Below w.heap.size w w4:=Below.trans (show Below w.heap.size w w3 from belo) b34
   clear hw4 k0 k1 k2 k3 k4 k5 k6 z0 z1 z2 z3 z4 z5 z6 zz
   revert b4
   revert M4
   revert Z4
   revert B4
   revert K2
   revert hbq2
   revert K1
   revert hbq1
   revert y2
   revert x2
   revert y1
   revert x1
   clear HX2 HX3 b34
   revert w4
   revert w3
   revert w2
   exact CUT1.out
 intro w2 w3 w4 x1 y1 x2 y2 hbq1 K1 hbq2 K2 B4 Z4 M4 b4
 obtain⟨⟨k0,k1,k2,k3,k4,k5,k6⟩,⟨z0,z1,z2,z3,z4,z5,z6⟩,zz⟩:=B4.out.st
 simp only at k0 k1 k2 k3 k4 k5 k6
 go_wp2
 apply cut_here
 ·intro CUT2
  go_region_law (first|(go_simp;go_at_call 100;((with_reducible refine(C3.out _ belo).mono ?_);rintro e w5 ⟨x3,y3,rfl,hnear3,hcan3,hown3,hlt3,hbq3⟩;have K3:=Lib.hid (And.intro hnear3 (And.intro hcan3 (And.intro hown3 hlt3)));clear hnear3 hcan3 hown3 hlt3;have B5:=Lib.hid (B4.out.drew.next (by simp) hbq3);have Z5:=Lib.hid (Z4.out.drew.next (by simp) hbq3);obtain⟨⟨kp0,kp1,kp2,kp3,kp4,kp5,kp6⟩,⟨zp0,zp1,zp2,zp3,zp4,zp5,zp6⟩,zzp⟩:=B5.out.st;simp only at kp0 kp1 kp2 kp3 kp4 kp5 kp6))|(go_simp;go_at_call 101;((with_reducible refine(C4.out _ belo).mono ?_);rintro e w6 ⟨x4,y4,rfl,hnear4,hcan4,hown4,hlt4,hbq4⟩;have K4:=Lib.hid (And.intro hnear4 (And.intro hcan4 (And.intro hown4 hlt4)));clear hnear4 hcan4 hown4 hlt4;clear kp0 zp0 kp1 zp1 kp2 zp2 kp3 zp3 kp4 zp4 kp5 zp5 kp6 zp6 zzp;have B6:=Lib.hid (B5.out.next (by simp) hbq4);have Z6:=Lib.hid (Z5.out.next (by simp) hbq4);obtain⟨⟨kq0,kq1,kq2,kq3,kq4,kq5,kq6⟩,⟨zq0,zq1,zq2,zq3,zq4,zq5,zq6⟩,zzq⟩:=B6.out.st;simp only at kq0 kq1 kq2 kq3 kq4 kq5 kq6)))
  all_goals
   obtain⟨w7,hw7⟩:∃x,x=(w6.setCell ⟨w.heap.size,5,none⟩ (.slice x3 ss.length y3)).setCell ⟨w.heap.size,6,none⟩ (.slice x4 ds.length y4):=⟨_,rfl⟩
   rw[←hw7]
   have B7:=Lib.hid (show Box w7 w.heap.size (Raw.cells ⟨term,stamp,next,⟨x1,ts.length,y1⟩,⟨x2,ls.length,y2⟩,⟨x3,ss.length,y3⟩,⟨x4,ds.length,y4⟩⟩) by rw[hw7];exact(B6.out.set (i:=5) (by simp) _).set (i:=6) (by simp) _)
   have Z7:=Lib.hid (show Box w7 (w.heap.size+1) (Raw.cells ⟨0,0,0,⟨none,0,0⟩,⟨none,0,0⟩,⟨none,0,0⟩,⟨none,0,0⟩⟩) by rw[hw7];exact(Z6.out.far (by simp) _).far (by simp) _)
   have M7:=Lib.hid (show Mid (w.heap.size+1) w6.heap.size w6 w7 by rw[hw7];exact((Mid.refl _ _ _).setCell _ _ (.inl (by simp))).setCell _ _ (.inl (by simp)))
   have b67:Below w.heap.size w6 w7:=by rw[hw7];exact((Below.refl w.heap.size w6).setCell (p:=⟨w.heap.size,5,none⟩) (Nat.le_refl w.heap.size) _).setCell (p:=⟨w.heap.size,6,none⟩) (Nat.le_refl w.heap.size) _
   have b7:Below w.heap.size w w7:=Below.trans (show Below w.heap.size w w6 from belo) b67
   clear hw7 kq0 zq0 kq1 zq1 kq2 zq2 kq3 zq3 kq4 zq4 kq5 zq5 kq6 zq6 zzq
   revert b7
   revert M7
   revert Z7
   revert B7
   revert K4
   revert hbq4
   revert K3
   revert hbq3
   revert y4
   revert x4
   revert y3
   revert x3
   clear B5 Z5 B6 Z6 b67
   revert w7
   revert w6
   revert w5
   exact CUT2.out
 clear k0 k1 k2 k3 k4 k5 k6 z0 z1 z2 z3 z4 z5 z6 zz
 intro w5 w6 w7 x3 y3 x4 y4 hbq3 K3 hbq4 K4 B7 Z7 M7 b7
 go_wp2_with(first|(refine wpList_load_as laySt rfl (.tmp 1) rfl w.heap.size 0 rfl ⟨term,stamp,next,⟨x1,ts.length,y1⟩,⟨x2,ls.length,y2⟩,⟨x3,ss.length,y3⟩,⟨x4,ds.length,y4⟩⟩ (.agg #[.int .i64 term,.int .i64 stamp,.int .i64 next,.slice x1 ts.length y1,.slice x2 ls.length y2,.slice x3 ss.length y3,.slice x4 ds.length y4]) rfl B7.out.range ?_)|(refine wpList_store_keep laySt rfl (.tmp 2) (.tmp 19) rfl (w.heap.size+1) 0 ⟨term,stamp,next,⟨x1,ts.length,y1⟩,⟨x2,ls.length,y2⟩,⟨x3,ss.length,y3⟩,⟨x4,ds.length,y4⟩⟩ rfl rfl Z7.out.there ?_;intro w8 hr8 ht8 hb8 hs8 hk8))
 obtain⟨c0,c1,c2,c3,c4,c5,c6⟩:=cellsSt0 hr8
 refine bodyPost_ret (v:= .agg #[.int .i64 term,.int .i64 stamp,.int .i64 next,.slice x1 ts.length y1,.slice x2 ls.length y2,.slice x3 ss.length y3,.slice x4 ds.length y4]) (by simp[results,Tryz.results57,go_sem,c0,c1,c2,c3,c4,c5,c6]) rfl ?_
 exact copy_finX K1.out K2.out K3.out K4.out (by simp) hbq1 hbq2 M4.out hbq3 hbq4 M7.out hk8 hs8 (b7.trans (hb8 w.heap.size (Nat.le_succ _)))
theorem wpList_canN {P:Program} {w:World} {ops:Array Oper} {rest:List Oper} {o:Oper} {ac:Act} {Q:Exit→ Act→World→ Prop} {t e:TypeId} {size bytes:Nat} (el:Elem P t e size bytes) (hgd:o.guard= none) (s x:Operand)
 (ho:o.op= .call {callee:= .builtin .append,args:= #[s,x],argTypes:= #[t,t]})
 (B:Nat) (a:Option Addr) (n c:Nat) (xs:List Value) (hs:ac.eval s= .slice a n c) (hcan:Can w B e size a n c xs)
 (ad:Option Addr) (m k:Nat) (news:List Value) (hx:ac.eval x= .slice ad m k) (hl:news.length= m*size) (hr:Row w ad news) (h1:∀u∈ news,u.oneCell'=true)
 (hbytes:(n+m)*bytes≤ 140737488355328) (hB:B≤ w.heap.size)
 (h:∀a' c' w',Can w' B e size a' (n+m) c' (xs++news)→w.grownBy w' (Value.slice a n c).ownBlock→Below B w w'→(0<m→ w'.ownsRow B e size (.slice a' (n+m) c') (n+m) (xs++news))∧(m=0→ a'=a∧ c'=c)→(0<m→ Near w.heap.size a a')→wpList P ops Q rest (ac.put o.dst (.slice a' (n+m) c')) w'):wpList P ops Q (o::rest) ac w:=by
 obtain⟨a',c',w',hrun,h2,h3,h4,h5⟩:=run_can el o.type B a n c xs hcan ad m k news hl hr h1 hbytes hB
 refine wpList_plain hgd fun K hK=> ?_
 unfold Oper.wp execOp
 simp only[ho,resolve,invoke,builtin,Sem.run_bind,Sem.run_pure,Result.andThen_ok,List.map_toArray,List.map_cons,List.map_nil,hs,hx,hrun]
 exact hK _ _ (h a' c' w' h2 h3 h4 h5 (fun hm=>can_near el o.type B a n c xs hcan ad m k news hl hr h1 hbytes hm hrun))
def RetSAN (w:World) (r:St× Ans) (e:Ending) (w':World):Prop:= ∃q B,e= .returned (.tuple #[Raw.agg q,r.2.agg])∧StAt w' B q r.1∧(stOk r.1=true→ (w.heap.size≤B∧ 0<B)∧ApD q)∧Below w.heap.size w w'
theorem grant_outN {w w':World} {tmps:Array Value} {res:St× Ans} {r9:Raw} {a:Ans} (h12:tmps[12]? =some (.pointer (some ⟨w.heap.size+1,0,none⟩))) (h13:tmps[13]? =some (.pointer (some ⟨w.heap.size+1+ 1,0,none⟩)))
 (hx:Box w' (w.heap.size+1) (Raw.cells r9)) (ha:Box w' (w.heap.size+1+ 1) (Ans.cells a)) {B:Nat} (hs:StAt w' B r9 res.1) (hB:stOk res.1=true→ (w.heap.size≤B∧ 0<B)∧ApD r9) (he:res.2= a) (hb:Below w.heap.size w w'):
 ∃v,(results Tryz.f118 tmps).run Tryz.prog w'= .ok v w'∧RetSAN w res (.returned v) w':=by
 obtain⟨k0,k1,k2,k3,k4,k5,k6⟩:=cellsSt0 hx.range
 obtain⟨j0,j1,j2,j3,j4⟩:=cellsAns0 ha.range
 have g12:tmps[12]! = .pointer (some ⟨w.heap.size+1,0,none⟩):=by rw[getElem!_def,h12]
 have g13:tmps[13]! = .pointer (some ⟨w.heap.size+1+ 1,0,none⟩):=by rw[getElem!_def,h13]
 refine⟨.tuple #[r9.agg,a.agg],?_,r9,B,by rw[he],hs,hB,hb⟩
 simp[results,Tryz.results118,go_sem,g12,g13,h12,h13,k0,k1,k2,k3,k4,k5,k6,j0,j1,j2,j3,j4]
section
variable {P:Program} {e:TypeId} {α:Type} {L:Lay P e α}
theorem LRow.where {w w':World} {a:Option Addr} {xs:List α} (h:LRow L w a xs) (hk:∀b o q,a=some ⟨b,o,q⟩→b< w.heap.size→w'.heap[b]? =w.heap[b]?):LRow L w' a xs:=by
 by_cases h0:xs.flatMap L.cells=[]
 ·exact .inl h0
 ·rcases h with h|⟨b,o,rfl,hc⟩
  ·exact absurd h h0
  ·have hlt:=Row.lt (.inr ⟨b,o,rfl,hc⟩) h0
   exact .inr ⟨b,o,rfl,fun i hi=>by rw[World.cell?_of_block (w:=w) (hk b o _ rfl hlt)];exact hc i hi⟩
theorem LRow.grown {w w':World} {a:Option Addr} {xs:List α} {blk:Option Nat} (h:LRow L w a xs) (hg:w.grownBy w' blk) (hne:∀b o q,a=some ⟨b,o,q⟩→some b≠blk):LRow L w' a xs:=h.where fun b o q ha hlt=>hg.block b hlt (hne b o q ha)
theorem SliAt.grown {w w':World} {B:Nat} {s:Sli} {xs:List α} {blk:Option Nat} (h:SliAt L w B s xs) (hg:w.grownBy w' blk) (hne:∀b o q,s.a=some ⟨b,o,q⟩→some b≠blk):SliAt L w' B s xs:=⟨h.len,h.le,h.nil,h.near,h.row.grown hg hne⟩
end
theorem DskAt.grown {w w':World} {B:Nat} {s:Sli} {xs:List Desk} {blk:Option Nat} (h:DskAt w B s xs) (hg:w.grownBy w' blk) (hne:∀b o q,s.a=some ⟨b,o,q⟩→some b≠blk):DskAt w' B s xs:=h.same (h.toSliAt.grown hg hne) hg.size fun g _ ha _ h1=>hg.block g h1 (hne g 0 none ha)
theorem ap_own {a b:Option Addr} {n c:Nat} (h:Ap a b):∀x o q,b=some ⟨x,o,q⟩→some x≠(Value.slice a n c).ownBlock:=fun x o q hb e=>by
 cases a with
 |none=> simp[Value.ownBlock]at e
 |some ad=>
  obtain⟨y,o',q'⟩:=ad
  simp[Value.ownBlock]at e
  exact h y o' q' x o q rfl hb e.symm
theorem near_of {B E:Nat} {a b:Option Addr} (h:Near E a b) (ha:Near B none a) (hB:B≤ E):Near B none b:=fun x o q hb=>by
 rcases h x o q hb with h1|⟨o',q',h1⟩
 ·exact .inl (by omega)
 ·exact ha x o' q' h1
theorem tens_put {w8 w9:World} {B:Nat} {r:Raw} {s:St} {xa:Option Addr} {ya:Nat} {ts:List Tenant} (h8:OwnSt w8 B r s) (hB:B≤ w8.heap.size) (hle:ts.length≤ ya) (hnil:xa= none→ya= 0) (hnear:Near w8.heap.size r.ten.a xa) (hrow:TRow w9 xa ts):SliAt layTen w9 B ⟨xa,ts.length,ya⟩ ts:=
 ⟨rfl,hle,hnil,near_of hnear h8.is.ten.near hB,hrow⟩
theorem grown_st {w8 w9 w10 w11 w15:World} {B g:Nat} {t4 s4 n4 nx:Int} {x1 x2 x3 x4 xa xb:Option Addr} {m1 y1 m2 y2 m3 y3 m4 y4 ya yb:Nat} {s:St} {ts:List Tenant} {l:Lease} {o:Obj}
 (h8:OwnSt w8 B ⟨t4,s4,n4,⟨x1,m1,y1⟩,⟨x2,m2,y2⟩,⟨x3,m3,y3⟩,⟨x4,m4,y4⟩⟩ s) (hB:B≤ w8.heap.size) (hb9:Below w8.heap.size w8 w9)
 (hle:ts.length≤ ya) (hnil:xa= none→ya= 0) (hnear:Near w8.heap.size x1 xa) (hrow:TRow w9 xa ts) (hw10:Wrote g w9 w10) (hg:g< B) (hg11:(w10.alloc o).grownBy w11 (Value.slice x2 m2 y2).ownBlock)
 (hown:w11.ownsRow B 59 7 (.slice xb (m2+1) yb) (m2+1) (s.leas.flatMap layLea.cells++layLea.cells l)) (hm:Mid B w11.heap.size w11 w15):
 StAt w15 B ⟨t4,s4,nx,⟨xa,ts.length,ya⟩,⟨xb,m2+1,yb⟩,⟨x3,m3,y3⟩,⟨x4,m4,y4⟩⟩ {s with tens:=ts,leas:=s.leas++ [l],next:=nx}:=by
 have m10:Mid B w8.heap.size w8 w10:=(Mid.below hb9 (Nat.le_refl _)).wrote hw10 (.inl hg)
 have h10:=h8.mid m10 (Nat.le_refl _) (Nat.le_refl _)
 have t9:=tens_put h8 hB hle hnil hnear hrow
 have t10:SliAt layTen w10 B ⟨xa,ts.length,ya⟩ ts:=t9.mid ((Mid.refl B w9.heap.size w9).wrote hw10 (.inl hg)) (Nat.le_refl _) (Nat.le_refl _)
 have hba:Below w10.heap.size w10 (w10.alloc o):=(Below.refl _ _).alloc (Nat.le_refl _) o
 have hxa:∀b q o,xa=some ⟨b,q,o⟩→some b≠(Value.slice x2 m2 y2).ownBlock:=fun b q o ha=>by
  rcases hnear b q o ha with h1|⟨q',o',h1⟩
  ·intro e
   cases x2 with
   |none=> simp[Value.ownBlock]at e
   |some ad=>
    obtain⟨y,u,v⟩:=ad
    simp[Value.ownBlock]at e
    have h2:y< w8.heap.size:=h8.lt y u v rfl
    have h3:w8.heap.size≤ b:=h1
    omega
  ·exact ap_own h8.tl.symm b q' o' h1
 have t11:=(t10.below hba).grown hg11 hxa
 have s11:=(h10.is.ses.below hba).grown hg11 (ap_own h8.ls)
 have d11:=(h10.is.dsk.below hba).grown hg11 (ap_own h8.ld)
 have hn2:s.leas.length= m2:=h8.is.lea.len
 obtain⟨a',c',hv,hc1,hc2,hc3⟩:=own_slice hown
 simp only[Value.slice.injEq]at hv
 obtain⟨rfl,_,rfl⟩:=hv
 have l11:SliAt layLea w11 B ⟨xb,m2+1,yb⟩ (s.leas++[l]):=⟨by simp[hn2],hc1,hc3,Near.own hown (Nat.le_refl _),by
  have:=own_row hown
  show Row w11 xb ((s.leas++[l]).flatMap layLea.cells)
  rw[List.flatMap_append];simpa using this⟩
 exact⟨h8.is.term,h8.is.stamp,rfl,t11.mid hm (Nat.le_refl _) (Nat.le_refl _),l11.mid hm (Nat.le_refl _) (Nat.le_refl _),s11.mid hm (Nat.le_refl _) (Nat.le_refl _),d11.mid hm (Nat.le_refl _) (Nat.le_refl _)⟩
theorem put_st {w8 w9 w15:World} {B:Nat} {t4 s4 n4:Int} {x1 xa:Option Addr} {m1 y1 ya:Nat} {l2 l3 l4:Sli} {s:St} {ts:List Tenant} (h8:StAt w8 B ⟨t4,s4,n4,⟨x1,m1,y1⟩,l2,l3,l4⟩ s) (hB:B≤ w8.heap.size) (hb9:Below w8.heap.size w8 w9)
 (hle:ts.length≤ ya) (hnil:xa= none→ya= 0) (hnear:Near w8.heap.size x1 xa) (hrow:TRow w9 xa ts) (hm:Mid B w9.heap.size w9 w15):StAt w15 B ⟨t4,s4,n4,⟨xa,ts.length,ya⟩,l2,l3,l4⟩ {s with tens:=ts}:=by
 have h9:=h8.below hb9
 have t9:SliAt layTen w9 B ⟨xa,ts.length,ya⟩ ts:=⟨rfl,hle,hnil,near_of hnear h8.ten.near hB,hrow⟩
 exact⟨h8.term,h8.stamp,h8.next,t9.mid hm (Nat.le_refl _) (Nat.le_refl _),h9.lea.mid hm (Nat.le_refl _) (Nat.le_refl _),h9.ses.mid hm (Nat.le_refl _) (Nat.le_refl _),h9.dsk.mid hm (Nat.le_refl _) (Nat.le_refl _)⟩
theorem drop_st {w5 w6 w15:World} {B g6:Nat} {t4 s4 n4:Int} {x2:Option Addr} {m2 y2:Nat} {l1 l3 l4:Sli} {s:St} {fl:List Lease} (h5:OwnSt w5 B ⟨t4,s4,n4,l1,⟨x2,m2,y2⟩,l3,l4⟩ s) (hr6:LRow layLea w6 x2 fl) (hle:fl.length≤ m2) (ho6:Only g6 w5 w6) (ha6:(∃o q,x2=some ⟨g6,o,q⟩)∨g6= w5.heap.size) (hm:Mid B w6.heap.size w6 w15):
 StAt w15 B ⟨t4,s4,n4,l1,⟨x2,fl.length,y2⟩,l3,l4⟩ {s with leas:=fl}:=by
 have h2:m2≤ y2:=h5.is.lea.le
 have l6:SliAt layLea w6 B ⟨x2,fl.length,y2⟩ fl:=⟨rfl,by show fl.length≤y2;omega,h5.is.lea.nil,h5.is.lea.near,hr6⟩
 exact⟨h5.is.term,h5.is.stamp,h5.is.next,(h5.is.ten.apart ho6 h5.tl.symm ha6).mid hm (Nat.le_refl _) (Nat.le_refl _),l6.mid hm (Nat.le_refl _) (Nat.le_refl _),(h5.is.ses.apart ho6 h5.ls ha6).mid hm (Nat.le_refl _) (Nat.le_refl _),(h5.is.dsk.apart ho6 h5.ld ha6).mid hm (Nat.le_refl _) (Nat.le_refl _)⟩
theorem box_put {P:Program} {e:TypeId} {α:Type} {L:Lay P e α} {w:World} {g:Nat} {cs:List Value} (z:α) (h:Box w g cs) (hl:cs.length= L.size):Box (w.setCells g 0 (L.cells z)) g (L.cells z)∧Wrote g w (w.setCells g 0 (L.cells z)):=by
 have ht:w.there g 0 L.size:=by rw[←hl];exact h.there
 exact⟨⟨range_put z ht,by rw[L.len];exact World.there_setCells ht _ _ _⟩,⟨fun _ hB=>Below.setCells hB _ _ (Below.refl _ _),setCells_size _ _ _ _,fun k hk=>setCells_keep g _ _ _ k hk⟩⟩
theorem two_wrote {w w14 w15:World} {g:Nat} {c1 c2:List Value} {F:World→ Prop} (p14:Box w14 (g+1) c1∧Wrote (g+1) w w14) (p15:Box w15 (g+1+ 1) c2∧Wrote (g+1+ 1) w14 w15)
 (hq:∀w',Box w' (g+1) c1→Box w' (g+1+ 1) c2→w'.heap.size= w.heap.size→(∀k,k≠g+ 1→k≠ g+1+ 1→w'.heap[k]? =w.heap[k]?)→(∀B,B≤g+ 1→Below B w w')→F w'):F w15.drew:=
 hq _ (p14.1.wrote p15.2 (by omega)).drew p15.1.drew (p15.2.size.trans p14.2.size) (fun k e1 e2=>(p15.2.keep k e2).trans (p14.2.keep k e1)) (fun B hB=>((p14.2.below B hB).trans (p15.2.below B (by omega))).drew)
end Go.Proofs.YtfdmhpohfjbpfaaGreat
