import Derived.Test.YtfdmhpohfjbpfaaGreatSq15
set_option linter.unusedVariables false
set_option linter.unusedSimpArgs false
namespace Go.Proofs.YtfdmhpohfjbpfaaGreat
open Go.ChangeShapes Go.WideShapes Go.ChangeAt Go.RowKit
set_option maxRecDepth 100000
set_option maxHeartbeats 4000000 in
theorem refcheck_sta (s:St) (r:Raw) (B:Nat) (w:World) (h:StAt w B r s) (hl1:s.tens.length≤ 900) (hl2:s.leas.length≤ 900) (hl3:s.sess.length≤ 900) (hl4:s.dsks.length≤ 900):
 Calls Tryz.prog 14 #[r.agg] w fun e w'=>e= .returned (.bool (stateOk s))∧Below w.heap.size w w':=by
 have HE:=Lib.hid (stateOk_eq s)
 have HB:=Lib.hid (fun k (h:k< s.dsks.length)=>dskOk_bad h)
 have HT:Hid (dsksOk (s.dsks.take s.dsks.length)=true→ dsksOk s.dsks=true):=fun h=>by rw[List.take_length]at h;exact h
 have H0:Hid (dsksOk (s.dsks.take 0)=true):=rfl
 have HN:=Lib.hid (fun k (h:k< s.dsks.length)=>dskOk_next h)
 have HL:=Lib.hid (fun k (h:k< s.dsks.length)=>lastKey_take (key:=Desk.shaper) (a:=0) h)
 have HGE:Hid (∀k,dsksOk (s.dsks.take k)=true→ 0≤lastKey Desk.shaper 0 (s.dsks.take k)):=fun k h=>lastKey_ge h
 have HCK:=Lib.hid (fun w' (hb:Below w.heap.size w w')=>refcheck_st s r B w' (h.below hb) hl1 hl2)
 have HSE:=Lib.hid (fun w' (hb:Below w.heap.size w w')=>refcheck_ses s.sess r.ses.a r.ses.n r.ses.c w' h.ses.len (le_maxLen (by have:=h.ses.len;omega)) (h.ses.row.below hb))
 have HD:=Lib.hid h.dsk.toSliAt
 have HL4:=Lib.hid hl4
 generalize hso:stOk s=so at HCK HE
 generalize hse:sessOk s.sess=se at HSE HE
 generalize hdo:dsksOk s.dsks=dk at HB HT HE
 generalize stateOk s=res at HE ⊢
 obtain⟨term,stamp,next,⟨a1,n1,c1⟩,⟨a2,n2,c2⟩,⟨a3,n3,c3⟩,⟨a4,n4,c4⟩⟩:=r
 have hq1:=h.term
 have hq2:=h.stamp
 simp only at hq1 hq2
 rw[←hq1,←hq2]at HE
 have HB0:Hid (Below w.heap.size w (w.alloc (.cells #[.int .i64 term,.int .i64 stamp,.int .i64 next,.slice a1 n1 c1,.slice a2 n2 c2,.slice a3 n3 c3,.slice a4 n4 c4] 27))):=mid_alloc' (Below.refl _ _)
 have HX0:Hid (Box (w.alloc (.cells #[.int .i64 term,.int .i64 stamp,.int .i64 next,.slice a1 n1 c1,.slice a2 n2 c2,.slice a3 n3 c3,.slice a4 n4 c4] 27)) w.heap.size (Raw.cells ⟨term,stamp,next,⟨a1,n1,c1⟩,⟨a2,n2,c2⟩,⟨a3,n3,c3⟩,⟨a4,n4,c4⟩⟩)):=Box.of_alloc (w:=w) (Below.refl _ _)
 clear h hl1 hl2 hl3 hl4 hso hse hdo hq1 hq2
 cases so with
 |false=>
  have HR:Hid (res=false):=by show _=_;rw[HE.out];simp
  go_enter Tryz.func14,Tryz.ntmps14
  go_wp2_with(first|((with_reducible refine at_load 27 (.tmp 1) ?_);refine wpList_load_as laySt rfl (.tmp 1) rfl w.heap.size 0 rfl ⟨term,stamp,next,⟨a1,n1,c1⟩,⟨a2,n2,c2⟩,⟨a3,n3,c3⟩,⟨a4,n4,c4⟩⟩ (.agg #[.int .i64 term,.int .i64 stamp,.int .i64 next,.slice a1 n1 c1,.slice a2 n2 c2,.slice a3 n3 c3,.slice a4 n4 c4]) rfl HX0.out.range ?_)|(go_at_call 26;((with_reducible refine(HCK.out _ HB0.out).mono ?_);rintro e w1 ⟨rfl,hb1⟩;have HB1:=Lib.hid (HB0.out.trans (hb1.mono HB0.out.size));have HX1:=Lib.hid (HX0.out.next (by simp) hb1);have q1:=HB1.out.size;clear hb1;obtain⟨k0,k1,k2,k3,k4,k5,k6⟩:=cellsSt0 HX1.out.range;simp only at k0 k1 k2 k3 k4 k5 k6))|(go_at_call 27;((with_reducible refine(HSE.out _ HB1.out).mono ?_);rintro e w2 ⟨rfl,hb2⟩;have HB2:=Lib.hid (HB1.out.trans (hb2.mono HB1.out.size));have HX2:=Lib.hid (HX1.out.next (by simp) hb2);have q2:=HB2.out.size;clear k0 k1 k2 k3 k4 k5 k6 hb2;obtain⟨k0,k1,k2,k3,k4,k5,k6⟩:=cellsSt0 HX2.out.range;simp only at k0 k1 k2 k3 k4 k5 k6)))
  go_returns
  exact⟨ret_bool HR.out.symm,HB1.out⟩
 |true=>
 cases se with
 |false=>
  have HR:Hid (res=false):=by show _=_;rw[HE.out];simp
  go_enter Tryz.func14,Tryz.ntmps14
  go_wp2_with(first|((with_reducible refine at_load 27 (.tmp 1) ?_);refine wpList_load_as laySt rfl (.tmp 1) rfl w.heap.size 0 rfl ⟨term,stamp,next,⟨a1,n1,c1⟩,⟨a2,n2,c2⟩,⟨a3,n3,c3⟩,⟨a4,n4,c4⟩⟩ (.agg #[.int .i64 term,.int .i64 stamp,.int .i64 next,.slice a1 n1 c1,.slice a2 n2 c2,.slice a3 n3 c3,.slice a4 n4 c4]) rfl HX0.out.range ?_)|(go_at_call 26;((with_reducible refine(HCK.out _ HB0.out).mono ?_);rintro e w1 ⟨rfl,hb1⟩;have HB1:=Lib.hid (HB0.out.trans (hb1.mono HB0.out.size));have HX1:=Lib.hid (HX0.out.next (by simp) hb1);have q1:=HB1.out.size;clear hb1;obtain⟨k0,k1,k2,k3,k4,k5,k6⟩:=cellsSt0 HX1.out.range;simp only at k0 k1 k2 k3 k4 k5 k6))|(go_at_call 27;((with_reducible refine(HSE.out _ HB1.out).mono ?_);rintro e w2 ⟨rfl,hb2⟩;have HB2:=Lib.hid (HB1.out.trans (hb2.mono HB1.out.size));have HX2:=Lib.hid (HX1.out.next (by simp) hb2);have q2:=HB2.out.size;clear k0 k1 k2 k3 k4 k5 k6 hb2;obtain⟨k0,k1,k2,k3,k4,k5,k6⟩:=cellsSt0 HX2.out.range;simp only at k0 k1 k2 k3 k4 k5 k6)))
  go_returns
  exact⟨ret_bool HR.out.symm,HB2.out⟩
 |true=>
 by_cases g1:term< 0
 ·have HR:Hid (res=false):=by show _=_;rw[HE.out,decide_eq_false (by omega)];rfl
  have d1:decide (term<0)=true:= decide_eq_true g1
  go_enter Tryz.func14,Tryz.ntmps14
  go_wp2_with(first|((with_reducible refine at_load 27 (.tmp 1) ?_);refine wpList_load_as laySt rfl (.tmp 1) rfl w.heap.size 0 rfl ⟨term,stamp,next,⟨a1,n1,c1⟩,⟨a2,n2,c2⟩,⟨a3,n3,c3⟩,⟨a4,n4,c4⟩⟩ (.agg #[.int .i64 term,.int .i64 stamp,.int .i64 next,.slice a1 n1 c1,.slice a2 n2 c2,.slice a3 n3 c3,.slice a4 n4 c4]) rfl HX0.out.range ?_)|(go_at_call 26;((with_reducible refine(HCK.out _ HB0.out).mono ?_);rintro e w1 ⟨rfl,hb1⟩;have HB1:=Lib.hid (HB0.out.trans (hb1.mono HB0.out.size));have HX1:=Lib.hid (HX0.out.next (by simp) hb1);have q1:=HB1.out.size;clear hb1;obtain⟨k0,k1,k2,k3,k4,k5,k6⟩:=cellsSt0 HX1.out.range;simp only at k0 k1 k2 k3 k4 k5 k6))|(go_at_call 27;((with_reducible refine(HSE.out _ HB1.out).mono ?_);rintro e w2 ⟨rfl,hb2⟩;have HB2:=Lib.hid (HB1.out.trans (hb2.mono HB1.out.size));have HX2:=Lib.hid (HX1.out.next (by simp) hb2);have q2:=HB2.out.size;clear k0 k1 k2 k3 k4 k5 k6 hb2;obtain⟨k0,k1,k2,k3,k4,k5,k6⟩:=cellsSt0 HX2.out.range;simp only at k0 k1 k2 k3 k4 k5 k6)))
  go_returns
  exact⟨ret_bool HR.out.symm,HB2.out⟩
 have d1:decide (term<0)=false:= decide_eq_false g1
 by_cases g2:stamp< 0
 ·have HR:Hid (res=false):=by show _=_;rw[HE.out,decide_eq_false (by omega)];rfl
  have d2:decide (stamp<0)=true:= decide_eq_true g2
  go_enter Tryz.func14,Tryz.ntmps14
  go_wp2_with(first|((with_reducible refine at_load 27 (.tmp 1) ?_);refine wpList_load_as laySt rfl (.tmp 1) rfl w.heap.size 0 rfl ⟨term,stamp,next,⟨a1,n1,c1⟩,⟨a2,n2,c2⟩,⟨a3,n3,c3⟩,⟨a4,n4,c4⟩⟩ (.agg #[.int .i64 term,.int .i64 stamp,.int .i64 next,.slice a1 n1 c1,.slice a2 n2 c2,.slice a3 n3 c3,.slice a4 n4 c4]) rfl HX0.out.range ?_)|(go_at_call 26;((with_reducible refine(HCK.out _ HB0.out).mono ?_);rintro e w1 ⟨rfl,hb1⟩;have HB1:=Lib.hid (HB0.out.trans (hb1.mono HB0.out.size));have HX1:=Lib.hid (HX0.out.next (by simp) hb1);have q1:=HB1.out.size;clear hb1;obtain⟨k0,k1,k2,k3,k4,k5,k6⟩:=cellsSt0 HX1.out.range;simp only at k0 k1 k2 k3 k4 k5 k6))|(go_at_call 27;((with_reducible refine(HSE.out _ HB1.out).mono ?_);rintro e w2 ⟨rfl,hb2⟩;have HB2:=Lib.hid (HB1.out.trans (hb2.mono HB1.out.size));have HX2:=Lib.hid (HX1.out.next (by simp) hb2);have q2:=HB2.out.size;clear k0 k1 k2 k3 k4 k5 k6 hb2;obtain⟨k0,k1,k2,k3,k4,k5,k6⟩:=cellsSt0 HX2.out.range;simp only at k0 k1 k2 k3 k4 k5 k6)))
  go_returns
  exact⟨ret_bool HR.out.symm,HB2.out⟩
 have d2:decide (stamp<0)=false:= decide_eq_false g2
 replace HE:Hid (res=dk):=by show _=_;rw[HE.out,decide_eq_true (by omega)];rfl
 clear g1 g2
 go_enter Tryz.func14,Tryz.ntmps14
 go_wp2_with(first|((with_reducible refine at_load 27 (.tmp 1) ?_);refine wpList_load_as laySt rfl (.tmp 1) rfl w.heap.size 0 rfl ⟨term,stamp,next,⟨a1,n1,c1⟩,⟨a2,n2,c2⟩,⟨a3,n3,c3⟩,⟨a4,n4,c4⟩⟩ (.agg #[.int .i64 term,.int .i64 stamp,.int .i64 next,.slice a1 n1 c1,.slice a2 n2 c2,.slice a3 n3 c3,.slice a4 n4 c4]) rfl HX0.out.range ?_)|(go_at_call 26;((with_reducible refine(HCK.out _ HB0.out).mono ?_);rintro e w1 ⟨rfl,hb1⟩;have HB1:=Lib.hid (HB0.out.trans (hb1.mono HB0.out.size));have HX1:=Lib.hid (HX0.out.next (by simp) hb1);have q1:=HB1.out.size;clear hb1;obtain⟨k0,k1,k2,k3,k4,k5,k6⟩:=cellsSt0 HX1.out.range;simp only at k0 k1 k2 k3 k4 k5 k6))|(go_at_call 27;((with_reducible refine(HSE.out _ HB1.out).mono ?_);rintro e w2 ⟨rfl,hb2⟩;have HB2:=Lib.hid (HB1.out.trans (hb2.mono HB1.out.size));have HX2:=Lib.hid (HX1.out.next (by simp) hb2);have q2:=HB2.out.size;clear k0 k1 k2 k3 k4 k5 k6 hb2;obtain⟨k0,k1,k2,k3,k4,k5,k6⟩:=cellsSt0 HX2.out.range;simp only at k0 k1 k2 k3 k4 k5 k6)))
 obtain rfl:s.dsks.length= n4:=HD.out.len
 have hl9:=HL4.out
 generalize(Raw.agg ⟨term,stamp,next,⟨a1,n1,c1⟩,⟨a2,n2,c2⟩,⟨a3,n3,c3⟩,⟨a4,s.dsks.length,c4⟩⟩)=v0
 generalize(Value.agg #[.int .i64 term,.int .i64 stamp,.int .i64 next,.slice a1 n1 c1,.slice a2 n2 c2,.slice a3 n3 c3,.slice a4 s.dsks.length c4])=v21
 go_loopw [3] (fun i wr=>∃k: Nat,k≤s.dsks.length∧ i= .int .i64 k∧Hid (dsksOk (s.dsks.take k)=true)∧Hid (Below w2.heap.size w2 wr)) (fun i _=>s.dsks.length- (intOf i).toNat)
 case atStart=>exact ⟨0,by omega,rfl,H0,Below.refl _ _⟩
 case round=>
  obtain⟨k,hk,rfl,hok,hbr⟩:=hrel
  have hbw:Below w.heap.size w wr:=HB2.out.trans (hbr.out.mono HB2.out.size)
  have HBW:=Lib.hid hbw
  have HXR:=Lib.hid (HX2.out.next (by simp) hbr.out)
  clear hbw k0 k1 k2 k3 k4 k5 k6
  have k6:=HXR.out.cell (j:=6) rfl
  simp only at k6
  have qr:=HBW.out.size
  have hgr:=HXR.out.lt (by simp)
  by_cases hlt:k< s.dsks.length
  ·obtain⟨b,o,rfl,hcs⟩:=LRow.range HD.out.row hlt
   have HCS:=Lib.hid hcs
   have HRG:=Lib.hid (hcs _ HBW.out)
   have HB1':=Lib.hid (HB.out k hlt)
   have HN1:=Lib.hid (HN.out k hlt hok.out)
   have hge:=HGE.out k hok.out
   clear hcs
   generalize hxk:s.dsks[k]=x at HRG HB1' HN1
   obtain⟨x0,x1,x2,⟨xe,xr,xb,xl,xz⟩⟩:=x
   clear hxk
   by_cases g1:x0< 1
   ·have HO:=Lib.hid (HB1'.out (by intro hh;have:=hh.1;simp only at this;omega))
    have e1:decide (x0<1)=true:= decide_eq_true g1
    go_wp2_with(first|((with_reducible refine at_load 66 (.tmp 34) ?_);refine wpList_load_as layDsk rfl (.tmp 34) rfl b (o+k* 8) rfl ⟨x0,x1,x2,⟨xe,xr,xb,xl,xz⟩⟩ (.agg #[.int .i64 x0,.int .i64 x1,.int .i64 x2,.int .i64 xe,.int .i64 xr,.int .i64 xb,.int .i64 xl,.int .i64 xz]) rfl HRG.out ?_)|((with_reducible refine at_store 66 (.tmp 4) (.tmp 35) ?_);refine wpList_store_box layDsk rfl (.tmp 4) (.tmp 35) rfl ⟨x0,x1,x2,⟨xe,xr,xb,xl,xz⟩⟩ rfl rfl rfl ?_;intro w7 hw7 _ hb7 hs7;have HB7:=Lib.hid hb7;obtain⟨p0,p1,p2,_⟩:=cellsDsk hw7;simp only[Nat.zero_add]at p0 p1 p2;have k6a:=(HXR.out.next (by simp) hb7).cell (j:=6) rfl;simp only at k6a;clear hw7 hb7))
    go_quiet (fail)
    go_wp2
    go_returns
    exact⟨ret_bool (HE.out.trans HO.out).symm,below_drewN (HBW.out.trans (HB7.out.mono HBW.out.size)) _⟩
   have e1:decide (x0<1)=false:= decide_eq_false g1
   by_cases g2:8< x0
   ·have HO:=Lib.hid (HB1'.out (by intro hh;have:=hh.2.1;simp only at this;omega))
    have e2:decide (8<x0)=true:= decide_eq_true g2
    go_wp2_with(first|((with_reducible refine at_load 66 (.tmp 34) ?_);refine wpList_load_as layDsk rfl (.tmp 34) rfl b (o+k* 8) rfl ⟨x0,x1,x2,⟨xe,xr,xb,xl,xz⟩⟩ (.agg #[.int .i64 x0,.int .i64 x1,.int .i64 x2,.int .i64 xe,.int .i64 xr,.int .i64 xb,.int .i64 xl,.int .i64 xz]) rfl HRG.out ?_)|((with_reducible refine at_store 66 (.tmp 4) (.tmp 35) ?_);refine wpList_store_box layDsk rfl (.tmp 4) (.tmp 35) rfl ⟨x0,x1,x2,⟨xe,xr,xb,xl,xz⟩⟩ rfl rfl rfl ?_;intro w7 hw7 _ hb7 hs7;have HB7:=Lib.hid hb7;obtain⟨p0,p1,p2,_⟩:=cellsDsk hw7;simp only[Nat.zero_add]at p0 p1 p2;have k6a:=(HXR.out.next (by simp) hb7).cell (j:=6) rfl;simp only at k6a;clear hw7 hb7))
    go_quiet (fail)
    go_wp2
    go_returns
    exact⟨ret_bool (HE.out.trans HO.out).symm,below_drewN (HBW.out.trans (HB7.out.mono HBW.out.size)) _⟩
   have e2:decide (8<x0)=false:= decide_eq_false g2
   by_cases g3:x1< 1
   ·have HO:=Lib.hid (HB1'.out (by intro hh;have:=hh.2.2.1;simp only at this;omega))
    have e3:decide (x1<1)=true:= decide_eq_true g3
    go_wp2_with(first|((with_reducible refine at_load 66 (.tmp 34) ?_);refine wpList_load_as layDsk rfl (.tmp 34) rfl b (o+k* 8) rfl ⟨x0,x1,x2,⟨xe,xr,xb,xl,xz⟩⟩ (.agg #[.int .i64 x0,.int .i64 x1,.int .i64 x2,.int .i64 xe,.int .i64 xr,.int .i64 xb,.int .i64 xl,.int .i64 xz]) rfl HRG.out ?_)|((with_reducible refine at_store 66 (.tmp 4) (.tmp 35) ?_);refine wpList_store_box layDsk rfl (.tmp 4) (.tmp 35) rfl ⟨x0,x1,x2,⟨xe,xr,xb,xl,xz⟩⟩ rfl rfl rfl ?_;intro w7 hw7 _ hb7 hs7;have HB7:=Lib.hid hb7;obtain⟨p0,p1,p2,_⟩:=cellsDsk hw7;simp only[Nat.zero_add]at p0 p1 p2;have k6a:=(HXR.out.next (by simp) hb7).cell (j:=6) rfl;simp only at k6a;clear hw7 hb7))
    go_quiet (fail)
    go_wp2
    go_returns
    exact⟨ret_bool (HE.out.trans HO.out).symm,below_drewN (HBW.out.trans (HB7.out.mono HBW.out.size)) _⟩
   have e3:decide (x1<1)=false:= decide_eq_false g3
   by_cases g4:x2< 1
   ·have HO:=Lib.hid (HB1'.out (by intro hh;have:=hh.2.2.2;simp only at this;omega))
    have e4:decide (x2<1)=true:= decide_eq_true g4
    go_wp2_with(first|((with_reducible refine at_load 66 (.tmp 34) ?_);refine wpList_load_as layDsk rfl (.tmp 34) rfl b (o+k* 8) rfl ⟨x0,x1,x2,⟨xe,xr,xb,xl,xz⟩⟩ (.agg #[.int .i64 x0,.int .i64 x1,.int .i64 x2,.int .i64 xe,.int .i64 xr,.int .i64 xb,.int .i64 xl,.int .i64 xz]) rfl HRG.out ?_)|((with_reducible refine at_store 66 (.tmp 4) (.tmp 35) ?_);refine wpList_store_box layDsk rfl (.tmp 4) (.tmp 35) rfl ⟨x0,x1,x2,⟨xe,xr,xb,xl,xz⟩⟩ rfl rfl rfl ?_;intro w7 hw7 _ hb7 hs7;have HB7:=Lib.hid hb7;obtain⟨p0,p1,p2,_⟩:=cellsDsk hw7;simp only[Nat.zero_add]at p0 p1 p2;have k6a:=(HXR.out.next (by simp) hb7).cell (j:=6) rfl;simp only at k6a;clear hw7 hb7))
    go_quiet (fail)
    go_wp2
    go_returns
    exact⟨ret_bool (HE.out.trans HO.out).symm,below_drewN (HBW.out.trans (HB7.out.mono HBW.out.size)) _⟩
   have e4:decide (x2<1)=false:= decide_eq_false g4
   cases k with
   |zero=>
    have hla:lastKey Desk.shaper 0 (s.dsks.take 0)=0:= rfl
    have HN2:=Lib.hid (HN1.out (by rw[hla];simp only;omega) (by simp only;omega) (by simp only;omega) (by simp only;omega))
    have e5:decide ((0:Int)<0)=false:= rfl
    have HRG0:=HRG.out
    rw[Nat.zero_mul,Nat.add_zero]at HRG0
    replace HRG:=Lib.hid HRG0
    clear HRG0
    clear hla hge g1 g2 g3 g4
    go_wp2_with(first|((with_reducible refine at_load 66 (.tmp 34) ?_);refine wpList_load_as layDsk rfl (.tmp 34) rfl b o rfl ⟨x0,x1,x2,⟨xe,xr,xb,xl,xz⟩⟩ (.agg #[.int .i64 x0,.int .i64 x1,.int .i64 x2,.int .i64 xe,.int .i64 xr,.int .i64 xb,.int .i64 xl,.int .i64 xz]) rfl HRG.out ?_)|((with_reducible refine at_store 66 (.tmp 4) (.tmp 35) ?_);refine wpList_store_box layDsk rfl (.tmp 4) (.tmp 35) rfl ⟨x0,x1,x2,⟨xe,xr,xb,xl,xz⟩⟩ rfl rfl rfl ?_;intro w7 hw7 _ hb7 hs7;have HB7:=Lib.hid hb7;obtain⟨p0,p1,p2,_⟩:=cellsDsk hw7;simp only[Nat.zero_add]at p0 p1 p2;have k6a:=(HXR.out.next (by simp) hb7).cell (j:=6) rfl;simp only at k6a;clear hw7 hb7))
    go_quiet (fail)
    go_wp2
    go_roundw
    case rel=>exact ⟨0+1,by omega,by go_num,HN2.out,below_drewN (hbr.out.trans (HB7.out.mono hbr.out.size)) _⟩
    case measure=>simp [intOf];omega
   |succ j=>
    have hj:j< s.dsks.length:=by omega
    have HLJ:=Lib.hid (HL.out j hj)
    obtain⟨b2,o2,hbo,hcs2⟩:=LRow.range HD.out.row hj
    simp only[Option.some.injEq,Addr.mk.injEq,and_true]at hbo
    obtain⟨rfl,rfl⟩:=hbo
    have HCJ:=Lib.hid hcs2
    clear hcs2
    rw[HLJ.out]at HN1 HB1' hge
    generalize hyj:s.dsks[j]=y at HCJ HN1 HB1' hge
    obtain⟨y0,y1,y2,ya⟩:=y
    clear hyj HLJ
    have e5:decide ((0:Int)<(j:Int)+1)=true:= decide_eq_true (by omega)
    have hjj:IntKind.i64.wrap ((j:Int)+1- 1)=(j:Int):=by rw[IntKind.wrap_i64];omega
    by_cases g5:x0≤ y0
    ·have HO:=Lib.hid (HB1'.out (by intro hh;have:=hh.1;simp only at this;omega))
     have e6:decide (x0≤y0)=true:= decide_eq_true g5
     clear g1 g2 g3 g4 g5 hge
     go_wp2_with(first|((with_reducible refine at_load 66 (.tmp 34) ?_);refine wpList_load_as layDsk rfl (.tmp 34) rfl b (o+(j+1)*8) rfl ⟨x0,x1,x2,⟨xe,xr,xb,xl,xz⟩⟩ (.agg #[.int .i64 x0,.int .i64 x1,.int .i64 x2,.int .i64 xe,.int .i64 xr,.int .i64 xb,.int .i64 xl,.int .i64 xz]) rfl HRG.out ?_)|((with_reducible refine at_store 66 (.tmp 4) (.tmp 35) ?_);refine wpList_store_box layDsk rfl (.tmp 4) (.tmp 35) rfl ⟨x0,x1,x2,⟨xe,xr,xb,xl,xz⟩⟩ rfl rfl rfl ?_;intro w7 hw7 _ hb7 hs7;have HB7:=Lib.hid hb7;obtain⟨p0,p1,p2,_⟩:=cellsDsk hw7;simp only[Nat.zero_add]at p0 p1 p2;have k6a:=(HXR.out.next (by simp) hb7).cell (j:=6) rfl;simp only at k6a;have y0c:w7.cell? ⟨b,o+j* 8,none⟩=some (.int .i64 y0):=(cellsDsk (HCJ.out _ (HBW.out.trans (hb7.mono HBW.out.size)))).1;clear hw7 hb7))
     go_quiet (fail)
     go_wp2
     go_returns
     exact⟨ret_bool (HE.out.trans HO.out).symm,below_drewN (HBW.out.trans (HB7.out.mono HBW.out.size)) _⟩
    have e6:decide (x0≤y0)=false:= decide_eq_false g5
    have HN2:=Lib.hid (HN1.out (by simp only;omega) (by simp only;omega) (by simp only;omega) (by simp only;omega))
    clear g1 g2 g3 g4 g5 hge
    go_wp2_with(first|((with_reducible refine at_load 66 (.tmp 34) ?_);refine wpList_load_as layDsk rfl (.tmp 34) rfl b (o+(j+1)*8) rfl ⟨x0,x1,x2,⟨xe,xr,xb,xl,xz⟩⟩ (.agg #[.int .i64 x0,.int .i64 x1,.int .i64 x2,.int .i64 xe,.int .i64 xr,.int .i64 xb,.int .i64 xl,.int .i64 xz]) rfl HRG.out ?_)|((with_reducible refine at_store 66 (.tmp 4) (.tmp 35) ?_);refine wpList_store_box layDsk rfl (.tmp 4) (.tmp 35) rfl ⟨x0,x1,x2,⟨xe,xr,xb,xl,xz⟩⟩ rfl rfl rfl ?_;intro w7 hw7 _ hb7 hs7;have HB7:=Lib.hid hb7;obtain⟨p0,p1,p2,_⟩:=cellsDsk hw7;simp only[Nat.zero_add]at p0 p1 p2;have k6a:=(HXR.out.next (by simp) hb7).cell (j:=6) rfl;simp only at k6a;have y0c:w7.cell? ⟨b,o+j* 8,none⟩=some (.int .i64 y0):=(cellsDsk (HCJ.out _ (HBW.out.trans (hb7.mono HBW.out.size)))).1;clear hw7 hb7))
    go_quiet (fail)
    go_wp2
    go_roundw
    case rel=>exact ⟨j+1+ 1,by omega,by go_num,HN2.out,below_drewN (hbr.out.trans (HB7.out.mono hbr.out.size)) _⟩
    case measure=>simp [intOf];omega
  ·obtain rfl:k= s.dsks.length:=by omega
   have HO:=Lib.hid (HT.out hok.out)
   go_wp2
   go_returns
   exact⟨ret_bool (HE.out.trans HO.out).symm,HBW.out⟩
structure Cb (w:World) (D:Nat) (a:Option Addr) (c:Nat) (bs:List UInt8):Prop where
 can:Can w D 5 1 a bs.length c (bs.map B)
 far:∀b o s,a=some ⟨b,o,s⟩→D≤ b∧b< w.heap.size
theorem Cb.nil (w:World) (D:Nat):Cb w D none 0 []:=⟨Can.nil _ _ _ _,fun _ _ _ h=>by cases h⟩
theorem Cb.below {w w':World} {D c:Nat} {a:Option Addr} {bs:List UInt8} (h:Cb w D a c bs) (hb:Below w.heap.size w w'):Cb w' D a c bs:=
 ⟨can_mid h.can (Mid.below hb (Nat.le_refl _):Mid D w.heap.size w w') (fun b o s e=> .inl (h.far b o s e).1) (Nat.le_refl _) (Nat.le_refl _),fun b o s e=>⟨(h.far b o s e).1,Nat.lt_of_lt_of_le (h.far b o s e).2 hb.size⟩⟩
structure Gro (a a':Option Addr) (w w':World):Prop where
 os:w'.os= w.os
 tape:w'.tape= w.tape
 output:w'.output= w.output
 size:w.heap.size≤ w'.heap.size
 keep:∀k,k<w.heap.size→ (∀o s,a≠some ⟨k,o,s⟩)→w'.heap[k]? =w.heap[k]?
 near:Near w.heap.size a a'
theorem Gro.refl (a:Option Addr) (w:World):Gro a a w w:=⟨rfl,rfl,rfl,Nat.le_refl _,fun _ _ _=>rfl,Near.self _ _⟩
theorem Gro.trans {a a' a'':Option Addr} {w w' w'':World} (h:Gro a a' w w') (h2:Gro a' a'' w' w''):Gro a a'' w w'':=
 ⟨h2.os.trans h.os,h2.tape.trans h.tape,h2.output.trans h.output,Nat.le_trans h.size h2.size,fun k hk ha=>by
  rw[h2.keep k (Nat.lt_of_lt_of_le hk h.size) (fun o s e=>by
   rcases h.near k o s e with h1|⟨o',s',h1⟩
   ·omega
   ·exact ha o' s' h1)]
  exact h.keep k hk ha,fun b o s e=>by
  rcases h2.near b o s e with h1|⟨o',s',h1⟩
  ·exact .inl (Nat.le_trans h.size h1)
  ·exact h.near b o' s' h1⟩
theorem Gro.pre {a a':Option Addr} {w W w':World} (h:Gro a a' W w') (hb:Below w.heap.size w W):Gro a a' w w':=
 ⟨h.os.trans hb.os,h.tape.trans hb.tape,h.output.trans hb.output,Nat.le_trans hb.size h.size,fun k hk ha=>by rw[h.keep k (Nat.lt_of_lt_of_le hk hb.size) ha,hb.block k hk],h.near.mono hb.size⟩
theorem Gro.bel {w w':World} {a':Option Addr} (h:Gro none a' w w'):Below w.heap.size w w':=⟨h.os,h.tape,h.output,h.size,fun k hk=>h.keep k hk (fun o s e=>by cases e)⟩
theorem Gro.off {w w':World} {x:Nat} {a a':Option Addr} (hg:Gro a a' w w') (hx:x< w.heap.size) (ha:∀o s,a≠some ⟨x,o,s⟩):∀o s,a'≠some ⟨x,o,s⟩:=fun o s e=>by
 rcases hg.near x o s e with h1|⟨o',s',h1⟩
 ·omega
 ·exact ha o' s' h1
theorem Cb.step {w W0 w':World} {D:Nat} {a a':Option Addr} {c c':Nat} {bs ns:List UInt8} (hb:Below w.heap.size w W0)
 (hcan:Can w' D 5 1 a' (bs.length+ns.length) c' (bs.map B++ns.map B)) (hg:W0.grownBy w' (Value.slice a bs.length c).ownBlock) (hn:Near W0.heap.size a a') (hown:∀b o s,a'=some ⟨b,o,s⟩→D≤ b) (hlt:∀b o s,a'=some ⟨b,o,s⟩→b< w'.heap.size):
 Cb w' D a' c' (bs++ns)∧Gro a a' w w':=by
 have ow:∀k,(∀o s,a≠some ⟨k,o,s⟩)→some k≠(Value.slice a bs.length c).ownBlock:=fun k hk e=>by
  cases a with
  |none=> simp[Value.ownBlock]at e
  |some ad=>
   obtain⟨y,u,v⟩:=ad
   simp[Value.ownBlock]at e
   subst e
   exact hk u v rfl
 refine⟨⟨by rw[List.length_append,List.map_append];exact hcan,fun b o s e=>⟨hown b o s e,hlt b o s e⟩⟩,⟨hg.os.trans hb.os,hg.tape.trans hb.tape,hg.output.trans hb.output,Nat.le_trans hb.size hg.size,fun k hk ha=> ?_,hn.mono hb.size⟩⟩
 rw[hg.block k (Nat.lt_of_lt_of_le hk hb.size) (ow k ha),hb.block k hk]
theorem wpList_far {P:Program} {w:World} {ops:Array Oper} {rest:List Oper} {o:Oper} {ac:Act} {Q:Exit→ Act→World→ Prop} {t e:TypeId} {size bytes:Nat} (el:Elem P t e size bytes) (hgd:o.guard= none) (s x:Operand)
 (ho:o.op= .call {callee:= .builtin .append,args:= #[s,x],argTypes:= #[t,t]})
 (D:Nat) (a:Option Addr) (n c:Nat) (xs:List Value) (hs:ac.eval s= .slice a n c) (hcan:Can w D e size a n c xs)
 (ad:Option Addr) (m k:Nat) (news:List Value) (hx:ac.eval x= .slice ad m k) (hl:news.length= m*size) (hr:Row w ad news) (h1:∀u∈ news,u.oneCell'=true)
 (hbytes:(n+m)*bytes≤ 140737488355328) (hD:D≤ w.heap.size) (hfar:∀b o s,a=some ⟨b,o,s⟩→D≤ b∧b< w.heap.size)
 (h:∀a' c' w',Can w' D e size a' (n+m) c' (xs++news)→w.grownBy w' (Value.slice a n c).ownBlock→Near w.heap.size a a'→(∀b o s,a'=some ⟨b,o,s⟩→D≤ b)→(∀b o s,a'=some ⟨b,o,s⟩→b< w'.heap.size)→wpList P ops Q rest (ac.put o.dst (.slice a' (n+m) c')) w'):wpList P ops Q (o::rest) ac w:=by
 refine wpList_plain hgd fun K hK=> ?_
 have:=step_far (ops:=ops) (K:=K) (Q:=Q) (E:=True) el hgd s x ho D a n c xs hs hcan ad m k news hx hl hr h1 hbytes hD hfar (fun a' c' w' h2 h3 h4 h5 h6=>hK _ _ (h a' c' w' h2 h3 h4 h5 h6))
 have hw:Region.wanted o (yielded ops ac.tmps)=true:= by simp[Region.wanted,hgd]
 rw[if_pos hw]at this
 exact this
def RetCb (w:World) (D:Nat) (a:Option Addr) (bs:List UInt8) (e:Ending) (w':World):Prop:= ∃a' c',e= .returned (.slice a' bs.length c')∧Cb w' D a' c' bs∧Gro a a' w w'
def RetCbL (w:World) (D:Nat) (a:Option Addr) (bs ns:List UInt8) (k:Nat) (e:Ending) (w':World):Prop:= ∃l a' c',e= .returned (.slice a' l.length c')∧l= bs++ns∧ l.length≤bs.length+ k∧Cb w' D a' c' l∧Gro a a' w w'
theorem RetCb.l {w w':World} {D k:Nat} {a:Option Addr} {bs ns:List UInt8} {e:Ending} (h:RetCb w D a (bs++ns) e w') (hk:ns.length≤ k):RetCbL w D a bs ns k e w':=by
 obtain⟨a',c',h1,h2,h3⟩:=h
 exact⟨_,a',c',h1,rfl,by rw[List.length_append];omega,h2,h3⟩
theorem Cb.new {w:World} {D c:Nat} {a:Option Addr} {bs:List UInt8} (h:Cb w D a c bs):∀o s,a≠some ⟨w.heap.size,o,s⟩:=fun o s e=>by have:=(h.far _ o s e).2;omega
end Go.Proofs.YtfdmhpohfjbpfaaGreat
