import Derived.Test.YtfdmhpohfjbpfaaGreatSqStaOnceP
import Derived.Test.YtfdmhpohfjbpfaaGreatSqStaWakes
import Derived.Test.YtfdmhpohfjbpfaaGreatSqStaSame
import Derived.Test.YtfdmhpohfjbpfaaGreatSqWirRefReadCmd
set_option linter.unusedVariables false
set_option linter.unusedSimpArgs false
namespace Go.Proofs.YtfdmhpohfjbpfaaGreat
open Go.ChangeShapes Go.WideShapes Go.ChangeAt Go.RowKit
set_option maxRecDepth 100000
set_option maxHeartbeats 8000000 in
theorem sonce_bad (s:St) (r:Raw) (x:WEnt) (px:PEnt) (w:World) (h:StAt w 0 r s) (hi:InI s.stamp) (hl1:s.tens.length≤ 1000000000000000) (hl2:s.leas.length≤ 1000000000000000) (hl3:s.sess.length≤ 1000000000000000) (hl4:s.dsks.length≤ 1000000000000000)
 (hx:RowB w px.1 x.data∧x.data.length≤ px.2∧x.data.length≤ 1000000000000000∧InI x.stamp) (hbad:¬(stateOk s=true∧ x.kind=2∧ 1≤x.term∧ 0≤x.stamp)):
 Calls Tryz.prog 5 #[r.agg,valEnt x px] w fun e w'=>e= .returned (.bool true)∧Below w.heap.size w w':=by
 have HGR:=Lib.hid (fun w' (hb:Below w.heap.size w w')=>great19_any s r 0 w' (h.below hb) hl1 hl2 hl3 hl4)
 have HLG:Hid (∀w0: World,Calls Tryz.prog 8 #[.slice (some ⟨w0.heap.size,0,none⟩) 1 1] (w0.alloc (.cells #[.int .i64 x.term,.int .i8 x.kind,.int .i64 x.stamp,B x.set,.slice px.1 x.data.length px.2] 45)) (RetEs (w0.alloc (.cells #[.int .i64 x.term,.int .i8 x.kind,.int .i64 x.stamp,B x.set,.slice px.1 x.data.length px.2] 45)) [(x,px)])):=Lib.hid (fun w0=>long_any [(x,px)] (some ⟨w0.heap.size,0,none⟩) 1 1 _ rfl (Row.new w0 _ _ _) (by intro y hy;rw[List.mem_singleton]at hy;subst hy;exact hx.2.2.1) (by decide))
 have HCK:Hid (∀w',StAt w' 0 r s→(s.tens.length≤300∧ s.leas.length≤300∧ s.sess.length≤300∧ s.dsks.length≤300)→Calls Tryz.prog 14 #[r.agg] w' fun e w''=>e= .returned (.bool (stateOk s))∧Below w'.heap.size w' w''):=Lib.hid (fun w' hs hl=>refcheck_sta s r 0 w' hs (by omega) (by omega) (by omega) (by omega))
 have HXD:=Lib.hid hx
 have HIS:=Lib.hid hi
 have HSR:=Lib.hid h
 obtain⟨t1,t2,t3,⟨a1,n1,c1⟩,⟨a2,n2,c2⟩,⟨a3,n3,c3⟩,⟨a4,n4,c4⟩⟩:=r
 unfold valEnt
 have HBx:Hid (Below w.heap.size w ((w.alloc (.cells #[.int .i64 t1,.int .i64 t2,.int .i64 t3,.slice a1 n1 c1,.slice a2 n2 c2,.slice a3 n3 c3,.slice a4 n4 c4] 27)).alloc (.cells #[.int .i64 x.term,.int .i8 x.kind,.int .i64 x.stamp,B x.set,.slice px.1 x.data.length px.2] 45))):=mid_alloc' (mid_alloc' (Below.refl _ _))
 have HGx:Hid (Bex ((w.alloc (.cells #[.int .i64 t1,.int .i64 t2,.int .i64 t3,.slice a1 n1 c1,.slice a2 n2 c2,.slice a3 n3 c3,.slice a4 n4 c4] 27)).alloc (.cells #[.int .i64 x.term,.int .i8 x.kind,.int .i64 x.stamp,B x.set,.slice px.1 x.data.length px.2] 45)) w.heap.size (Raw.cells ⟨t1,t2,t3,⟨a1,n1,c1⟩,⟨a2,n2,c2⟩,⟨a3,n3,c3⟩,⟨a4,n4,c4⟩⟩)):=Bex.of_alloc (w:=w) (mid_alloc' (Below.refl _ _))
 have HEx:Hid (Bex ((w.alloc (.cells #[.int .i64 t1,.int .i64 t2,.int .i64 t3,.slice a1 n1 c1,.slice a2 n2 c2,.slice a3 n3 c3,.slice a4 n4 c4] 27)).alloc (.cells #[.int .i64 x.term,.int .i8 x.kind,.int .i64 x.stamp,B x.set,.slice px.1 x.data.length px.2] 45)) (w.heap.size+1) (cellsEnt x px)):=by
  have:=Bex.new (w.alloc (.cells #[.int .i64 t1,.int .i64 t2,.int .i64 t3,.slice a1 n1 c1,.slice a2 n2 c2,.slice a3 n3 c3,.slice a4 n4 c4] 27)) (cellsEnt x px) 45
  rw[World.size_alloc]at this;exact this
 have HSx:=Lib.hid (h.below HBx.out)
 clear h hi hl1 hl2 hl3 hl4 hx
 have hb':stateOk s=false∨ (stateOk s=true∧ ¬x.kind= 2)∨(stateOk s=true∧ x.kind=2∧ x.term<1)∨(stateOk s=true∧ x.kind=2∧ ¬x.term< 1∧x.stamp< 0):=by
  cases hso:stateOk s with
  |false=> exact .inl rfl
  |true=>
   by_cases k1:x.kind= 2
   ·by_cases k2:x.term< 1
    ·exact .inr (.inr (.inl ⟨rfl,k1,k2⟩))
    ·exact .inr (.inr (.inr ⟨rfl,k1,k2,by
      by_cases k3:x.stamp< 0
      ·exact k3
      ·exact absurd ⟨hso,k1,by omega,by omega⟩ hbad⟩))
   ·exact .inr (.inl ⟨rfl,k1⟩)
 clear hbad
 go_enter Tryz.func5,Tryz.ntmps5
 go_upto_region 1 with fail
 obtain⟨w1,hw1⟩:∃y,y=((w.alloc (.cells #[.int .i64 t1,.int .i64 t2,.int .i64 t3,.slice a1 n1 c1,.slice a2 n2 c2,.slice a3 n3 c3,.slice a4 n4 c4] 27)).alloc (.cells #[.int .i64 x.term,.int .i8 x.kind,.int .i64 x.stamp,B x.set,.slice px.1 x.data.length px.2] 45)):=⟨_,rfl⟩
 rw[←hw1]at HBx HGx HEx HSx ⊢
 clear hw1
 have e0:=HEx.out.box.cell (j:=0) rfl
 have e1:=HEx.out.box.cell (j:=1) rfl
 have e2:=HEx.out.box.cell (j:=2) rfl
 rcases hb' with k0|⟨k0,k1⟩|⟨k0,k1,k2⟩|⟨k0,k1,k2,k3⟩
 ·rw[k0]at HCK
  clear k0
  go_wp2_with(first|((with_reducible refine at_load 27 (.tmp 2) ?_);refine wpList_strip (by rfl) ?_;refine wpList_load_as laySt rfl (.tmp 2) rfl w.heap.size 0 rfl ⟨t1,t2,t3,⟨a1,n1,c1⟩,⟨a2,n2,c2⟩,⟨a3,n3,c3⟩,⟨a4,n4,c4⟩⟩ (Raw.agg ⟨t1,t2,t3,⟨a1,n1,c1⟩,⟨a2,n2,c2⟩,⟨a3,n3,c3⟩,⟨a4,n4,c4⟩⟩) rfl HGx.out.box.range ?_)|((with_reducible refine at_load 27 (.tmp 2) ?_);refine wpList_load_as laySt rfl (.tmp 2) rfl w.heap.size 0 rfl ⟨t1,t2,t3,⟨a1,n1,c1⟩,⟨a2,n2,c2⟩,⟨a3,n3,c3⟩,⟨a4,n4,c4⟩⟩ (Raw.agg ⟨t1,t2,t3,⟨a1,n1,c1⟩,⟨a2,n2,c2⟩,⟨a3,n3,c3⟩,⟨a4,n4,c4⟩⟩) rfl HGx.out.box.range ?_)|((with_reducible refine at_load 45 (.tmp 3) ?_);refine wpList_strip (by rfl) ?_;refine wpList_load_as layRw rfl (.tmp 3) rfl (w.heap.size+1) 0 rfl (x,px) (.agg #[.int .i64 x.term,.int .i8 x.kind,.int .i64 x.stamp,B x.set,.slice px.1 x.data.length px.2]) rfl HEx.out.box.range ?_)|(go_at_call 7;((with_reducible refine(HGR.out _ HBx.out).mono ?_);rintro e w2 ⟨bg,rfl,hb,hgf⟩;replace HBx:=Lib.hid (HBx.out.trans (hb.mono HBx.out.size));replace HGx:=Lib.hid (HGx.out.next hb);replace HEx:=Lib.hid (HEx.out.next hb);replace HSx:=Lib.hid (HSx.out.below hb);replace e0:=HEx.out.box.cell (j:=0) rfl;replace e1:=HEx.out.box.cell (j:=1) rfl;replace e2:=HEx.out.box.cell (j:=2) rfl;have HGF:=Lib.hid hgf;clear hb hgf;cases bg))|(go_at_call 8;((with_reducible refine(HLG.out w2).mono ?_);rintro e w3 ⟨bl,rfl,hw3,hlf⟩;have hb:Below w2.heap.size w2 w3:=by {rw[hw3];exact(Below.refl _ _).alloc (Nat.le_refl _) _};replace HBx:=Lib.hid (HBx.out.trans (hb.mono HBx.out.size));replace HGx:=Lib.hid (HGx.out.next hb);replace HEx:=Lib.hid (HEx.out.next hb);replace HSx:=Lib.hid (HSx.out.below hb);replace e0:=HEx.out.box.cell (j:=0) rfl;replace e1:=HEx.out.box.cell (j:=1) rfl;replace e2:=HEx.out.box.cell (j:=2) rfl;have HLF:=Lib.hid hlf;clear hb hlf hw3;cases bl))|(go_at_call 14;((with_reducible refine(HCK.out w3 HSx.out (by have:=HGF.out (by simp);omega)).mono ?_);rintro e w4 ⟨rfl,hb⟩;replace HBx:=Lib.hid (HBx.out.trans (hb.mono HBx.out.size));replace HGx:=Lib.hid (HGx.out.next hb);replace HEx:=Lib.hid (HEx.out.next hb);replace HSx:=Lib.hid (HSx.out.below hb);replace e0:=HEx.out.box.cell (j:=0) rfl;replace e1:=HEx.out.box.cell (j:=1) rfl;replace e2:=HEx.out.box.cell (j:=2) rfl;clear hb))|(go_at_call 9;((with_reducible refine(wakes19 _).mono ?_);rintro e wk ⟨rfl,hb⟩;replace HBx:=Lib.hid (HBx.out.trans (hb.mono HBx.out.size));clear hb)))
  all_goals
   go_returns
   exact⟨rfl,HBx.out⟩
 ·rw[k0]at HCK
  have b1:(x.kind !=2)=true:= by simpa using k1
  clear k0 k1
  go_wp2_with(first|((with_reducible refine at_load 27 (.tmp 2) ?_);refine wpList_strip (by rfl) ?_;refine wpList_load_as laySt rfl (.tmp 2) rfl w.heap.size 0 rfl ⟨t1,t2,t3,⟨a1,n1,c1⟩,⟨a2,n2,c2⟩,⟨a3,n3,c3⟩,⟨a4,n4,c4⟩⟩ (Raw.agg ⟨t1,t2,t3,⟨a1,n1,c1⟩,⟨a2,n2,c2⟩,⟨a3,n3,c3⟩,⟨a4,n4,c4⟩⟩) rfl HGx.out.box.range ?_)|((with_reducible refine at_load 27 (.tmp 2) ?_);refine wpList_load_as laySt rfl (.tmp 2) rfl w.heap.size 0 rfl ⟨t1,t2,t3,⟨a1,n1,c1⟩,⟨a2,n2,c2⟩,⟨a3,n3,c3⟩,⟨a4,n4,c4⟩⟩ (Raw.agg ⟨t1,t2,t3,⟨a1,n1,c1⟩,⟨a2,n2,c2⟩,⟨a3,n3,c3⟩,⟨a4,n4,c4⟩⟩) rfl HGx.out.box.range ?_)|((with_reducible refine at_load 45 (.tmp 3) ?_);refine wpList_strip (by rfl) ?_;refine wpList_load_as layRw rfl (.tmp 3) rfl (w.heap.size+1) 0 rfl (x,px) (.agg #[.int .i64 x.term,.int .i8 x.kind,.int .i64 x.stamp,B x.set,.slice px.1 x.data.length px.2]) rfl HEx.out.box.range ?_)|(go_at_call 7;((with_reducible refine(HGR.out _ HBx.out).mono ?_);rintro e w2 ⟨bg,rfl,hb,hgf⟩;replace HBx:=Lib.hid (HBx.out.trans (hb.mono HBx.out.size));replace HGx:=Lib.hid (HGx.out.next hb);replace HEx:=Lib.hid (HEx.out.next hb);replace HSx:=Lib.hid (HSx.out.below hb);replace e0:=HEx.out.box.cell (j:=0) rfl;replace e1:=HEx.out.box.cell (j:=1) rfl;replace e2:=HEx.out.box.cell (j:=2) rfl;have HGF:=Lib.hid hgf;clear hb hgf;cases bg))|(go_at_call 8;((with_reducible refine(HLG.out w2).mono ?_);rintro e w3 ⟨bl,rfl,hw3,hlf⟩;have hb:Below w2.heap.size w2 w3:=by {rw[hw3];exact(Below.refl _ _).alloc (Nat.le_refl _) _};replace HBx:=Lib.hid (HBx.out.trans (hb.mono HBx.out.size));replace HGx:=Lib.hid (HGx.out.next hb);replace HEx:=Lib.hid (HEx.out.next hb);replace HSx:=Lib.hid (HSx.out.below hb);replace e0:=HEx.out.box.cell (j:=0) rfl;replace e1:=HEx.out.box.cell (j:=1) rfl;replace e2:=HEx.out.box.cell (j:=2) rfl;have HLF:=Lib.hid hlf;clear hb hlf hw3;cases bl))|(go_at_call 14;((with_reducible refine(HCK.out w3 HSx.out (by have:=HGF.out (by simp);omega)).mono ?_);rintro e w4 ⟨rfl,hb⟩;replace HBx:=Lib.hid (HBx.out.trans (hb.mono HBx.out.size));replace HGx:=Lib.hid (HGx.out.next hb);replace HEx:=Lib.hid (HEx.out.next hb);replace HSx:=Lib.hid (HSx.out.below hb);replace e0:=HEx.out.box.cell (j:=0) rfl;replace e1:=HEx.out.box.cell (j:=1) rfl;replace e2:=HEx.out.box.cell (j:=2) rfl;clear hb))|(go_at_call 9;((with_reducible refine(wakes19 _).mono ?_);rintro e wk ⟨rfl,hb⟩;replace HBx:=Lib.hid (HBx.out.trans (hb.mono HBx.out.size));clear hb)))
  all_goals
   go_returns
   exact⟨rfl,HBx.out⟩
 ·rw[k0]at HCK
  have b1:(x.kind !=2)=false:= by simp[k1]
  have b2:decide (x.term<1)=true:= decide_eq_true k2
  clear k0 k1 k2
  go_wp2_with(first|((with_reducible refine at_load 27 (.tmp 2) ?_);refine wpList_strip (by rfl) ?_;refine wpList_load_as laySt rfl (.tmp 2) rfl w.heap.size 0 rfl ⟨t1,t2,t3,⟨a1,n1,c1⟩,⟨a2,n2,c2⟩,⟨a3,n3,c3⟩,⟨a4,n4,c4⟩⟩ (Raw.agg ⟨t1,t2,t3,⟨a1,n1,c1⟩,⟨a2,n2,c2⟩,⟨a3,n3,c3⟩,⟨a4,n4,c4⟩⟩) rfl HGx.out.box.range ?_)|((with_reducible refine at_load 27 (.tmp 2) ?_);refine wpList_load_as laySt rfl (.tmp 2) rfl w.heap.size 0 rfl ⟨t1,t2,t3,⟨a1,n1,c1⟩,⟨a2,n2,c2⟩,⟨a3,n3,c3⟩,⟨a4,n4,c4⟩⟩ (Raw.agg ⟨t1,t2,t3,⟨a1,n1,c1⟩,⟨a2,n2,c2⟩,⟨a3,n3,c3⟩,⟨a4,n4,c4⟩⟩) rfl HGx.out.box.range ?_)|((with_reducible refine at_load 45 (.tmp 3) ?_);refine wpList_strip (by rfl) ?_;refine wpList_load_as layRw rfl (.tmp 3) rfl (w.heap.size+1) 0 rfl (x,px) (.agg #[.int .i64 x.term,.int .i8 x.kind,.int .i64 x.stamp,B x.set,.slice px.1 x.data.length px.2]) rfl HEx.out.box.range ?_)|(go_at_call 7;((with_reducible refine(HGR.out _ HBx.out).mono ?_);rintro e w2 ⟨bg,rfl,hb,hgf⟩;replace HBx:=Lib.hid (HBx.out.trans (hb.mono HBx.out.size));replace HGx:=Lib.hid (HGx.out.next hb);replace HEx:=Lib.hid (HEx.out.next hb);replace HSx:=Lib.hid (HSx.out.below hb);replace e0:=HEx.out.box.cell (j:=0) rfl;replace e1:=HEx.out.box.cell (j:=1) rfl;replace e2:=HEx.out.box.cell (j:=2) rfl;have HGF:=Lib.hid hgf;clear hb hgf;cases bg))|(go_at_call 8;((with_reducible refine(HLG.out w2).mono ?_);rintro e w3 ⟨bl,rfl,hw3,hlf⟩;have hb:Below w2.heap.size w2 w3:=by {rw[hw3];exact(Below.refl _ _).alloc (Nat.le_refl _) _};replace HBx:=Lib.hid (HBx.out.trans (hb.mono HBx.out.size));replace HGx:=Lib.hid (HGx.out.next hb);replace HEx:=Lib.hid (HEx.out.next hb);replace HSx:=Lib.hid (HSx.out.below hb);replace e0:=HEx.out.box.cell (j:=0) rfl;replace e1:=HEx.out.box.cell (j:=1) rfl;replace e2:=HEx.out.box.cell (j:=2) rfl;have HLF:=Lib.hid hlf;clear hb hlf hw3;cases bl))|(go_at_call 14;((with_reducible refine(HCK.out w3 HSx.out (by have:=HGF.out (by simp);omega)).mono ?_);rintro e w4 ⟨rfl,hb⟩;replace HBx:=Lib.hid (HBx.out.trans (hb.mono HBx.out.size));replace HGx:=Lib.hid (HGx.out.next hb);replace HEx:=Lib.hid (HEx.out.next hb);replace HSx:=Lib.hid (HSx.out.below hb);replace e0:=HEx.out.box.cell (j:=0) rfl;replace e1:=HEx.out.box.cell (j:=1) rfl;replace e2:=HEx.out.box.cell (j:=2) rfl;clear hb))|(go_at_call 9;((with_reducible refine(wakes19 _).mono ?_);rintro e wk ⟨rfl,hb⟩;replace HBx:=Lib.hid (HBx.out.trans (hb.mono HBx.out.size));clear hb)))
  all_goals
   go_returns
   exact⟨rfl,HBx.out⟩
 ·rw[k0]at HCK
  have b1:(x.kind !=2)=false:= by simp[k1]
  have b2:decide (x.term<1)=false:= decide_eq_false k2
  have b3:decide (x.stamp<0)=true:= decide_eq_true k3
  clear k0 k1 k2 k3
  go_wp2_with(first|((with_reducible refine at_load 27 (.tmp 2) ?_);refine wpList_strip (by rfl) ?_;refine wpList_load_as laySt rfl (.tmp 2) rfl w.heap.size 0 rfl ⟨t1,t2,t3,⟨a1,n1,c1⟩,⟨a2,n2,c2⟩,⟨a3,n3,c3⟩,⟨a4,n4,c4⟩⟩ (Raw.agg ⟨t1,t2,t3,⟨a1,n1,c1⟩,⟨a2,n2,c2⟩,⟨a3,n3,c3⟩,⟨a4,n4,c4⟩⟩) rfl HGx.out.box.range ?_)|((with_reducible refine at_load 27 (.tmp 2) ?_);refine wpList_load_as laySt rfl (.tmp 2) rfl w.heap.size 0 rfl ⟨t1,t2,t3,⟨a1,n1,c1⟩,⟨a2,n2,c2⟩,⟨a3,n3,c3⟩,⟨a4,n4,c4⟩⟩ (Raw.agg ⟨t1,t2,t3,⟨a1,n1,c1⟩,⟨a2,n2,c2⟩,⟨a3,n3,c3⟩,⟨a4,n4,c4⟩⟩) rfl HGx.out.box.range ?_)|((with_reducible refine at_load 45 (.tmp 3) ?_);refine wpList_strip (by rfl) ?_;refine wpList_load_as layRw rfl (.tmp 3) rfl (w.heap.size+1) 0 rfl (x,px) (.agg #[.int .i64 x.term,.int .i8 x.kind,.int .i64 x.stamp,B x.set,.slice px.1 x.data.length px.2]) rfl HEx.out.box.range ?_)|(go_at_call 7;((with_reducible refine(HGR.out _ HBx.out).mono ?_);rintro e w2 ⟨bg,rfl,hb,hgf⟩;replace HBx:=Lib.hid (HBx.out.trans (hb.mono HBx.out.size));replace HGx:=Lib.hid (HGx.out.next hb);replace HEx:=Lib.hid (HEx.out.next hb);replace HSx:=Lib.hid (HSx.out.below hb);replace e0:=HEx.out.box.cell (j:=0) rfl;replace e1:=HEx.out.box.cell (j:=1) rfl;replace e2:=HEx.out.box.cell (j:=2) rfl;have HGF:=Lib.hid hgf;clear hb hgf;cases bg))|(go_at_call 8;((with_reducible refine(HLG.out w2).mono ?_);rintro e w3 ⟨bl,rfl,hw3,hlf⟩;have hb:Below w2.heap.size w2 w3:=by {rw[hw3];exact(Below.refl _ _).alloc (Nat.le_refl _) _};replace HBx:=Lib.hid (HBx.out.trans (hb.mono HBx.out.size));replace HGx:=Lib.hid (HGx.out.next hb);replace HEx:=Lib.hid (HEx.out.next hb);replace HSx:=Lib.hid (HSx.out.below hb);replace e0:=HEx.out.box.cell (j:=0) rfl;replace e1:=HEx.out.box.cell (j:=1) rfl;replace e2:=HEx.out.box.cell (j:=2) rfl;have HLF:=Lib.hid hlf;clear hb hlf hw3;cases bl))|(go_at_call 14;((with_reducible refine(HCK.out w3 HSx.out (by have:=HGF.out (by simp);omega)).mono ?_);rintro e w4 ⟨rfl,hb⟩;replace HBx:=Lib.hid (HBx.out.trans (hb.mono HBx.out.size));replace HGx:=Lib.hid (HGx.out.next hb);replace HEx:=Lib.hid (HEx.out.next hb);replace HSx:=Lib.hid (HSx.out.below hb);replace e0:=HEx.out.box.cell (j:=0) rfl;replace e1:=HEx.out.box.cell (j:=1) rfl;replace e2:=HEx.out.box.cell (j:=2) rfl;clear hb))|(go_at_call 9;((with_reducible refine(wakes19 _).mono ?_);rintro e wk ⟨rfl,hb⟩;replace HBx:=Lib.hid (HBx.out.trans (hb.mono HBx.out.size));clear hb)))
  all_goals
   go_returns
   exact⟨rfl,HBx.out⟩
set_option maxHeartbeats 8000000 in
theorem sonce_good (s:St) (r:Raw) (x:WEnt) (px:PEnt) (w:World) (h:StAt w 0 r s) (hi:InI s.stamp) (hl1:s.tens.length≤ 1000000000000000) (hl2:s.leas.length≤ 1000000000000000) (hl3:s.sess.length≤ 1000000000000000) (hl4:s.dsks.length≤ 1000000000000000)
 (hx:RowB w px.1 x.data∧x.data.length≤ px.2∧x.data.length≤ 1000000000000000∧InI x.stamp) (hok:stateOk s=true) (hk:x.kind= 2) (ht:1≤ x.term) (hst:0≤ x.stamp):
 Calls Tryz.prog 5 #[r.agg,valEnt x px] w fun e w'=>e= .returned (.bool true)∧Below w.heap.size w w':=by
 have HGR:=Lib.hid (fun w' (hb:Below w.heap.size w w')=>great19_any s r 0 w' (h.below hb) hl1 hl2 hl3 hl4)
 have HLG:Hid (∀w0: World,Calls Tryz.prog 8 #[.slice (some ⟨w0.heap.size,0,none⟩) 1 1] (w0.alloc (.cells #[.int .i64 x.term,.int .i8 x.kind,.int .i64 x.stamp,B x.set,.slice px.1 x.data.length px.2] 45)) (RetEs (w0.alloc (.cells #[.int .i64 x.term,.int .i8 x.kind,.int .i64 x.stamp,B x.set,.slice px.1 x.data.length px.2] 45)) [(x,px)])):=Lib.hid (fun w0=>long_any [(x,px)] (some ⟨w0.heap.size,0,none⟩) 1 1 _ rfl (Row.new w0 _ _ _) (by intro y hy;rw[List.mem_singleton]at hy;subst hy;exact hx.2.2.1) (by decide))
 have HCK:Hid (∀w',StAt w' 0 r s→(s.tens.length≤300∧ s.leas.length≤300∧ s.sess.length≤300∧ s.dsks.length≤300)→Calls Tryz.prog 14 #[r.agg] w' fun e w''=>e= .returned (.bool (stateOk s))∧Below w'.heap.size w' w''):=Lib.hid (fun w' hs hl=>refcheck_sta s r 0 w' hs (by omega) (by omega) (by omega) (by omega))
 have HXD:=Lib.hid hx
 have HIS:=Lib.hid hi
 have HSR:=Lib.hid h
 obtain⟨t1,t2,t3,⟨a1,n1,c1⟩,⟨a2,n2,c2⟩,⟨a3,n3,c3⟩,⟨a4,n4,c4⟩⟩:=r
 unfold valEnt
 have HBx:Hid (Below w.heap.size w ((w.alloc (.cells #[.int .i64 t1,.int .i64 t2,.int .i64 t3,.slice a1 n1 c1,.slice a2 n2 c2,.slice a3 n3 c3,.slice a4 n4 c4] 27)).alloc (.cells #[.int .i64 x.term,.int .i8 x.kind,.int .i64 x.stamp,B x.set,.slice px.1 x.data.length px.2] 45))):=mid_alloc' (mid_alloc' (Below.refl _ _))
 have HGx:Hid (Bex ((w.alloc (.cells #[.int .i64 t1,.int .i64 t2,.int .i64 t3,.slice a1 n1 c1,.slice a2 n2 c2,.slice a3 n3 c3,.slice a4 n4 c4] 27)).alloc (.cells #[.int .i64 x.term,.int .i8 x.kind,.int .i64 x.stamp,B x.set,.slice px.1 x.data.length px.2] 45)) w.heap.size (Raw.cells ⟨t1,t2,t3,⟨a1,n1,c1⟩,⟨a2,n2,c2⟩,⟨a3,n3,c3⟩,⟨a4,n4,c4⟩⟩)):=Bex.of_alloc (w:=w) (mid_alloc' (Below.refl _ _))
 have HEx:Hid (Bex ((w.alloc (.cells #[.int .i64 t1,.int .i64 t2,.int .i64 t3,.slice a1 n1 c1,.slice a2 n2 c2,.slice a3 n3 c3,.slice a4 n4 c4] 27)).alloc (.cells #[.int .i64 x.term,.int .i8 x.kind,.int .i64 x.stamp,B x.set,.slice px.1 x.data.length px.2] 45)) (w.heap.size+1) (cellsEnt x px)):=by
  have:=Bex.new (w.alloc (.cells #[.int .i64 t1,.int .i64 t2,.int .i64 t3,.slice a1 n1 c1,.slice a2 n2 c2,.slice a3 n3 c3,.slice a4 n4 c4] 27)) (cellsEnt x px) 45
  rw[World.size_alloc]at this;exact this
 have HSx:=Lib.hid (h.below HBx.out)
 clear h hi hl1 hl2 hl3 hl4 hx
 have HRD:Hid (∀w',x.data.length≤8000→ Below w.heap.size w w'→Calls Tryz.prog 18 #[.slice px.1 x.data.length px.2] w' (RetRdCmd w' (readC x))):=Lib.hid (fun w' h8 hb=>refreadcommand_any px.1 px.2 x.data w' (Row.below HXD.out.1 hb) HXD.out.2.1 (by omega))
 have HTW:Hid ((readC x).2.2=0→ 1≤(readC x).1.kind→(readC x).1.kind≤4→ applyS (applyS s x).1 x=applyS s x):=Lib.hid (fun h0 h1 h4=>apply_twice hok hk ht hst h0 h1 h4)
 have HAP:Hid (∀w',x.data.length≤8000→ Below w.heap.size w w'→StAt w' 0 ⟨t1,t2,t3,⟨a1,n1,c1⟩,⟨a2,n2,c2⟩,⟨a3,n3,c3⟩,⟨a4,n4,c4⟩⟩ s→Calls Tryz.prog 15 #[Raw.agg ⟨t1,t2,t3,⟨a1,n1,c1⟩,⟨a2,n2,c2⟩,⟨a3,n3,c3⟩,⟨a4,n4,c4⟩⟩,.agg #[.int .i64 x.term,.int .i8 x.kind,.int .i64 x.stamp,B x.set,.slice px.1 x.data.length px.2]] w' (RetSAB w'.heap.size w' (applyS s x))):=Lib.hid (fun w' h8 hb hs=>apply_any s ⟨t1,t2,t3,⟨a1,n1,c1⟩,⟨a2,n2,c2⟩,⟨a3,n3,c3⟩,⟨a4,n4,c4⟩⟩ x px w' hs (ok_small hok) HIS.out HXD.out.2.2.2 (Row.below HXD.out.1 hb) HXD.out.2.1 h8)
 have HAP2:Hid (∀q w',x.data.length≤8000→ Below w.heap.size w w'→StAt w' 0 q (applyS s x).1→Calls Tryz.prog 15 #[q.agg,.agg #[.int .i64 x.term,.int .i8 x.kind,.int .i64 x.stamp,B x.set,.slice px.1 x.data.length px.2]] w' (RetSAB w'.heap.size w' (applyS (applyS s x).1 x))):=Lib.hid (fun q w' h8 hb hs=>apply_any (applyS s x).1 q x px w' hs (apply_small (ok_small hok) x) (apply_stamp HIS.out HXD.out.2.2.2) HXD.out.2.2.2 (Row.below HXD.out.1 hb) HXD.out.2.1 h8)
 have HSMA:=Lib.hid (ok_small (apply_ok hok x))
 generalize readC x=rd at HRD HTW
 obtain⟨⟨kd,cl,nu,te,ra,bu,sh,ep,le,sz,sp,co,ls⟩,at',en⟩:=rd
 rw[hok]at HCK
 have b1:(x.kind !=2)=false:= by simp[hk]
 have b2:decide (x.term<1)=false:= decide_eq_false (by omega)
 have b3:decide (x.stamp<0)=false:= decide_eq_false (by omega)
 clear hok hk ht hst
 go_enter Tryz.func5,Tryz.ntmps5
 go_upto_region 1 with fail
 obtain⟨w1,hw1⟩:∃y,y=((w.alloc (.cells #[.int .i64 t1,.int .i64 t2,.int .i64 t3,.slice a1 n1 c1,.slice a2 n2 c2,.slice a3 n3 c3,.slice a4 n4 c4] 27)).alloc (.cells #[.int .i64 x.term,.int .i8 x.kind,.int .i64 x.stamp,B x.set,.slice px.1 x.data.length px.2] 45)):=⟨_,rfl⟩
 rw[←hw1]at HBx HGx HEx HSx ⊢
 clear hw1
 have e0:=HEx.out.box.cell (j:=0) rfl
 have e1:=HEx.out.box.cell (j:=1) rfl
 have e2:=HEx.out.box.cell (j:=2) rfl
 go_upto_if 38 with(first|((with_reducible refine at_load 27 (.tmp 2) ?_);refine wpList_strip (by rfl) ?_;refine wpList_load_as laySt rfl (.tmp 2) rfl w.heap.size 0 rfl ⟨t1,t2,t3,⟨a1,n1,c1⟩,⟨a2,n2,c2⟩,⟨a3,n3,c3⟩,⟨a4,n4,c4⟩⟩ (Raw.agg ⟨t1,t2,t3,⟨a1,n1,c1⟩,⟨a2,n2,c2⟩,⟨a3,n3,c3⟩,⟨a4,n4,c4⟩⟩) rfl HGx.out.box.range ?_)|((with_reducible refine at_load 27 (.tmp 2) ?_);refine wpList_load_as laySt rfl (.tmp 2) rfl w.heap.size 0 rfl ⟨t1,t2,t3,⟨a1,n1,c1⟩,⟨a2,n2,c2⟩,⟨a3,n3,c3⟩,⟨a4,n4,c4⟩⟩ (Raw.agg ⟨t1,t2,t3,⟨a1,n1,c1⟩,⟨a2,n2,c2⟩,⟨a3,n3,c3⟩,⟨a4,n4,c4⟩⟩) rfl HGx.out.box.range ?_)|((with_reducible refine at_load 45 (.tmp 3) ?_);refine wpList_strip (by rfl) ?_;refine wpList_load_as layRw rfl (.tmp 3) rfl (w.heap.size+1) 0 rfl (x,px) (.agg #[.int .i64 x.term,.int .i8 x.kind,.int .i64 x.stamp,B x.set,.slice px.1 x.data.length px.2]) rfl HEx.out.box.range ?_)|(go_at_call 7;((with_reducible refine(HGR.out _ HBx.out).mono ?_);rintro e w2 ⟨bg,rfl,hb,hgf⟩;replace HBx:=Lib.hid (HBx.out.trans (hb.mono HBx.out.size));replace HGx:=Lib.hid (HGx.out.next hb);replace HEx:=Lib.hid (HEx.out.next hb);replace HSx:=Lib.hid (HSx.out.below hb);replace e0:=HEx.out.box.cell (j:=0) rfl;replace e1:=HEx.out.box.cell (j:=1) rfl;replace e2:=HEx.out.box.cell (j:=2) rfl;have HGF:=Lib.hid hgf;clear hb hgf;cases bg))|(go_at_call 8;((with_reducible refine(HLG.out w2).mono ?_);rintro e w3 ⟨bl,rfl,hw3,hlf⟩;have hb:Below w2.heap.size w2 w3:=by {rw[hw3];exact(Below.refl _ _).alloc (Nat.le_refl _) _};replace HBx:=Lib.hid (HBx.out.trans (hb.mono HBx.out.size));replace HGx:=Lib.hid (HGx.out.next hb);replace HEx:=Lib.hid (HEx.out.next hb);replace HSx:=Lib.hid (HSx.out.below hb);replace e0:=HEx.out.box.cell (j:=0) rfl;replace e1:=HEx.out.box.cell (j:=1) rfl;replace e2:=HEx.out.box.cell (j:=2) rfl;have HLF:=Lib.hid hlf;clear hb hlf hw3;cases bl))|(go_at_call 14;((with_reducible refine(HCK.out w3 HSx.out (by have:=HGF.out (by simp);omega)).mono ?_);rintro e w4 ⟨rfl,hb⟩;replace HBx:=Lib.hid (HBx.out.trans (hb.mono HBx.out.size));replace HGx:=Lib.hid (HGx.out.next hb);replace HEx:=Lib.hid (HEx.out.next hb);replace HSx:=Lib.hid (HSx.out.below hb);replace e0:=HEx.out.box.cell (j:=0) rfl;replace e1:=HEx.out.box.cell (j:=1) rfl;replace e2:=HEx.out.box.cell (j:=2) rfl;clear hb)))
 rotate_left
 ·go_wp2_with(go_at_call 9;((with_reducible refine(wakes19 _).mono ?_);rintro e wk ⟨rfl,hb⟩;replace HBx:=Lib.hid (HBx.out.trans (hb.mono HBx.out.size));clear hb))
  go_returns
  exact⟨rfl,HBx.out⟩
 ·go_wp2_with(go_at_call 9;((with_reducible refine(wakes19 _).mono ?_);rintro e wk ⟨rfl,hb⟩;replace HBx:=Lib.hid (HBx.out.trans (hb.mono HBx.out.size));clear hb))
  go_returns
  exact⟨rfl,HBx.out⟩
 ·have hgf:=HGF.out (by simp)
  obtain⟨-,h8⟩:=HLF.out (by simp)
  replace h8:x.data.length≤ 8000:=by simpa[sumD]using h8
  clear HGF HLF HGR HLG HCK
  have d4:=HEx.out.box.cell (j:=4) rfl
  go_upto_region 4 with(first|(go_at_call 18;((with_reducible refine(HRD.out _ h8 HBx.out).mono ?_);rintro e w5 ⟨⟨p0,p1⟩,rfl,hm,hb⟩;replace HBx:=Lib.hid (HBx.out.trans (hb.mono HBx.out.size));replace HGx:=Lib.hid (HGx.out.next hb);replace HEx:=Lib.hid (HEx.out.next hb);replace HSx:=Lib.hid (HSx.out.below hb);clear hm hb d4))|((with_reducible refine at_store 54 (.tmp 5) (.tmp 44) ?_);refine wpList_store_bex layCmd rfl (.tmp 5) (.tmp 44) rfl w5.heap.size (⟨kd,cl,nu,te,ra,bu,sh,ep,le,sz,sp,co,ls⟩,(p0,p1)) _ rfl rfl (Bex.new _ _ _) rfl ?_;intro w6 hx hw;have hb:=((Below.refl w5.heap.size w5).alloc (Nat.le_refl _) _).trans (hw.below _ (Nat.le_refl _));have HC9:=Lib.hid hx;replace HBx:=Lib.hid (HBx.out.trans (hb.mono HBx.out.size));replace HGx:=Lib.hid (HGx.out.next hb);replace HEx:=Lib.hid (HEx.out.next hb);replace HSx:=Lib.hid (HSx.out.below hb);clear hx hw hb))
  have kk:=HC9.out.box.cell (j:=0) rfl
  simp only at kk
  by_cases hen:en= 0
  ·have q0:(en !=0)=false:= by simp[hen]
   by_cases hk1:kd< 1
   ·have q1:decide (kd<1)=true:= decide_eq_true hk1
    go_wp2_with(go_at_call 9;((with_reducible refine(wakes19 _).mono ?_);rintro e wk ⟨rfl,hb⟩;replace HBx:=Lib.hid (HBx.out.trans (hb.mono HBx.out.size));clear hb))
    go_returns
    exact⟨rfl,HBx.out⟩
   have q1:decide (kd<1)=false:= decide_eq_false hk1
   by_cases hk4:4< kd
   ·have q2:decide (4<kd)=true:= decide_eq_true hk4
    go_wp2_with(go_at_call 9;((with_reducible refine(wakes19 _).mono ?_);rintro e wk ⟨rfl,hb⟩;replace HBx:=Lib.hid (HBx.out.trans (hb.mono HBx.out.size));clear hb))
    go_returns
    exact⟨rfl,HBx.out⟩
   have q2:decide (4<kd)=false:= decide_eq_false hk4
   have htw:=HTW.out hen (by omega) (by omega)
   have hsma:=HSMA.out
   rw[htw]at HAP2
   clear htw HTW hen
   generalize applyS s x=res at HAP HAP2 hsma
   obtain⟨ts,⟨be,br,bb,bl,bz⟩⟩:=res
   obtain⟨hm1,hm2,hm3,hm4⟩:=hsma
   simp only at hm1 hm2 hm3 hm4
   have hz6:w.heap.size+ 1<w6.heap.size:= HEx.out.lt
   go_wp2_with(first|((with_reducible refine at_load 27 (.tmp 2) ?_);refine wpList_load_as laySt rfl (.tmp 2) rfl w.heap.size 0 rfl ⟨t1,t2,t3,⟨a1,n1,c1⟩,⟨a2,n2,c2⟩,⟨a3,n3,c3⟩,⟨a4,n4,c4⟩⟩ (Raw.agg ⟨t1,t2,t3,⟨a1,n1,c1⟩,⟨a2,n2,c2⟩,⟨a3,n3,c3⟩,⟨a4,n4,c4⟩⟩) rfl HGx.out.box.range ?_)|((with_reducible refine at_load 45 (.tmp 3) ?_);refine wpList_load_as layRw rfl (.tmp 3) rfl (w.heap.size+1) 0 rfl (x,px) (.agg #[.int .i64 x.term,.int .i8 x.kind,.int .i64 x.stamp,B x.set,.slice px.1 x.data.length px.2]) rfl HEx.out.box.range ?_)|(go_at_call 15;((with_reducible refine(HAP.out _ h8 HBx.out HSx.out).mono ?_);rintro e w7 ⟨⟨y1,y2,y3,⟨ya1,yn1,yc1⟩,⟨ya2,yn2,yc2⟩,⟨ya3,yn3,yc3⟩,⟨ya4,yn4,yc4⟩⟩,rfl,hst,hb⟩;have H1:=Lib.hid (hst.mono (Nat.zero_le _));replace HBx:=Lib.hid (HBx.out.trans (hb.mono HBx.out.size));replace HEx:=Lib.hid (HEx.out.next hb);replace HGx:=Lib.hid (HGx.out.next hb);replace HSx:=Lib.hid (HSx.out.below hb);have hz1:=hb.size;clear hst hb))|((with_reducible refine at_store 27 (.tmp 8) (.tmp 64) ?_);refine wpList_store_bex laySt rfl (.tmp 8) (.tmp 64) rfl w7.heap.size ⟨y1,y2,y3,⟨ya1,yn1,yc1⟩,⟨ya2,yn2,yc2⟩,⟨ya3,yn3,yc3⟩,⟨ya4,yn4,yc4⟩⟩ _ rfl rfl (by exact Bex.of_alloc (mid_alloc' (Below.refl _ _))) rfl ?_;intro w8 hx hw;have hb:=(show Below w7.heap.size w7 _ from mid_alloc' (mid_alloc' (Below.refl _ _))).trans (hw.below _ (Nat.le_refl _));have HT1:=Lib.hid hx;have h9:=ans_new (w7.alloc (.cells #[.int .i64 0,.int .i64 0,.int .i64 0,.slice none 0 0,.slice none 0 0,.slice none 0 0,.slice none 0 0] 27));rw[World.size_alloc]at h9;have HU1:=Lib.hid (h9.wrote hw (by omega));replace HBx:=Lib.hid (HBx.out.trans (hb.mono HBx.out.size));replace HEx:=Lib.hid (HEx.out.next hb);replace HGx:=Lib.hid (HGx.out.next hb);replace HSx:=Lib.hid (HSx.out.below hb);replace H1:=Lib.hid (H1.out.below hb);clear hx hw hb h9)|((with_reducible refine at_store 40 (.tmp 9) (.tmp 65) ?_);refine wpList_store_bex layAns rfl (.tmp 9) (.tmp 65) rfl (w7.heap.size+1) ⟨be,br,bb,bl,bz⟩ _ rfl rfl HU1.out rfl ?_;intro w9 hx hw;have hsz:=(hw.below 0 (Nat.zero_le _)).size;replace HBx:=Lib.hid (HBx.out.trans (hw.below _ (by omega)));replace HEx:=Lib.hid (HEx.out.wrote hw (by omega));replace HT1:=Lib.hid (HT1.out.wrote hw (by omega));replace HSx:=Lib.hid (HSx.out.wrote HU1.out (misfits_ans _) hw);replace HGx:=Lib.hid (HGx.out.wrote hw (by omega));replace H1:=Lib.hid (H1.out.wrote HU1.out (misfits_ans _) hw);replace HU1:=Lib.hid hx;have hy1:=HU1.out.lt;clear hx hw hsz)|((with_reducible refine at_load 27 (.tmp 8) ?_);refine wpList_load_as laySt rfl (.tmp 8) rfl w7.heap.size 0 rfl ⟨y1,y2,y3,⟨ya1,yn1,yc1⟩,⟨ya2,yn2,yc2⟩,⟨ya3,yn3,yc3⟩,⟨ya4,yn4,yc4⟩⟩ (Raw.agg ⟨y1,y2,y3,⟨ya1,yn1,yc1⟩,⟨ya2,yn2,yc2⟩,⟨ya3,yn3,yc3⟩,⟨ya4,yn4,yc4⟩⟩) rfl HT1.out.box.range ?_)|(go_at_call 15;((with_reducible refine(HAP2.out _ _ h8 HBx.out H1.out).mono ?_);rintro e w10 ⟨⟨z1,z2,z3,⟨za1,zn1,zc1⟩,⟨za2,zn2,zc2⟩,⟨za3,zn3,zc3⟩,⟨za4,zn4,zc4⟩⟩,rfl,hst,hb⟩;have H2:=Lib.hid (hst.mono (Nat.zero_le _));replace HBx:=Lib.hid (HBx.out.trans (hb.mono HBx.out.size));replace HEx:=Lib.hid (HEx.out.next hb);replace HT1:=Lib.hid (HT1.out.next hb);replace HU1:=Lib.hid (HU1.out.next hb);replace H1:=Lib.hid (H1.out.below hb);have hz2:=hb.size;clear hst hb))|((with_reducible refine at_store 27 (.tmp 10) (.tmp 70) ?_);refine wpList_store_bex laySt rfl (.tmp 10) (.tmp 70) rfl w10.heap.size ⟨z1,z2,z3,⟨za1,zn1,zc1⟩,⟨za2,zn2,zc2⟩,⟨za3,zn3,zc3⟩,⟨za4,zn4,zc4⟩⟩ _ rfl rfl (by exact Bex.of_alloc (mid_alloc' (Below.refl _ _))) rfl ?_;intro w11 hx hw;have hb:=(show Below w10.heap.size w10 _ from mid_alloc' (mid_alloc' (Below.refl _ _))).trans (hw.below _ (Nat.le_refl _));have HT2:=Lib.hid hx;have h9:=ans_new (w10.alloc (.cells #[.int .i64 0,.int .i64 0,.int .i64 0,.slice none 0 0,.slice none 0 0,.slice none 0 0,.slice none 0 0] 27));rw[World.size_alloc]at h9;have HU2:=Lib.hid (h9.wrote hw (by omega));replace HBx:=Lib.hid (HBx.out.trans (hb.mono HBx.out.size));replace HEx:=Lib.hid (HEx.out.next hb);replace HT1:=Lib.hid (HT1.out.next hb);replace HU1:=Lib.hid (HU1.out.next hb);replace H1:=Lib.hid (H1.out.below hb);replace H2:=Lib.hid (H2.out.below hb);clear hx hw hb h9)|((with_reducible refine at_store 40 (.tmp 11) (.tmp 71) ?_);refine wpList_store_bex layAns rfl (.tmp 11) (.tmp 71) rfl (w10.heap.size+1) ⟨be,br,bb,bl,bz⟩ _ rfl rfl HU2.out rfl ?_;intro w12 hx hw;have hsz:=(hw.below 0 (Nat.zero_le _)).size;replace HBx:=Lib.hid (HBx.out.trans (hw.below _ (by omega)));replace HEx:=Lib.hid (HEx.out.wrote hw (by omega));replace HT2:=Lib.hid (HT2.out.wrote hw (by omega));replace H1:=Lib.hid (H1.out.wrote HU2.out (misfits_ans _) hw);replace HT1:=Lib.hid (HT1.out.wrote hw (by omega));replace HU1:=Lib.hid (HU1.out.wrote hw (by omega));replace H2:=Lib.hid (H2.out.wrote HU2.out (misfits_ans _) hw);replace HU2:=Lib.hid hx;have hy2:=HU2.out.lt;clear hx hw hsz)|((with_reducible refine at_load 40 (.tmp 9) ?_);refine wpList_load_as layAns rfl (.tmp 9) rfl (w7.heap.size+1) 0 rfl ⟨be,br,bb,bl,bz⟩ (Ans.agg ⟨be,br,bb,bl,bz⟩) rfl HU1.out.box.range ?_)|((with_reducible refine at_load 40 (.tmp 11) ?_);refine wpList_load_as layAns rfl (.tmp 11) rfl (w10.heap.size+1) 0 rfl ⟨be,br,bb,bl,bz⟩ (Ans.agg ⟨be,br,bb,bl,bz⟩) rfl HU2.out.box.range ?_)|((with_reducible refine at_load 27 (.tmp 8) ?_);refine wpList_strip (by rfl) ?_;refine wpList_load_as laySt rfl (.tmp 8) rfl w7.heap.size 0 rfl ⟨y1,y2,y3,⟨ya1,yn1,yc1⟩,⟨ya2,yn2,yc2⟩,⟨ya3,yn3,yc3⟩,⟨ya4,yn4,yc4⟩⟩ (Raw.agg ⟨y1,y2,y3,⟨ya1,yn1,yc1⟩,⟨ya2,yn2,yc2⟩,⟨ya3,yn3,yc3⟩,⟨ya4,yn4,yc4⟩⟩) rfl HT1.out.box.range ?_)|((with_reducible refine at_load 27 (.tmp 10) ?_);refine wpList_strip (by rfl) ?_;refine wpList_load_as laySt rfl (.tmp 10) rfl w10.heap.size 0 rfl ⟨z1,z2,z3,⟨za1,zn1,zc1⟩,⟨za2,zn2,zc2⟩,⟨za3,zn3,zc3⟩,⟨za4,zn4,zc4⟩⟩ (Raw.agg ⟨z1,z2,z3,⟨za1,zn1,zc1⟩,⟨za2,zn2,zc2⟩,⟨za3,zn3,zc3⟩,⟨za4,zn4,zc4⟩⟩) rfl HT2.out.box.range ?_)|(go_at_call 13;((with_reducible refine(same_sta19 ts ⟨y1,y2,y3,⟨ya1,yn1,yc1⟩,⟨ya2,yn2,yc2⟩,⟨ya3,yn3,yc3⟩,⟨ya4,yn4,yc4⟩⟩ ⟨z1,z2,z3,⟨za1,zn1,zc1⟩,⟨za2,zn2,zc2⟩,⟨za3,zn3,zc3⟩,⟨za4,zn4,zc4⟩⟩ 0 0 _ H1.out H2.out (by omega) (by omega) (by omega) (by omega)).mono ?_);rintro e w13 ⟨rfl,hb⟩;replace HBx:=Lib.hid (HBx.out.trans (hb.mono HBx.out.size));clear hb))|(go_at_call 9;((with_reducible refine(wakes19 _).mono ?_);rintro e wk ⟨rfl,hb⟩;replace HBx:=Lib.hid (HBx.out.trans (hb.mono HBx.out.size));clear hb)))
   go_returns
   exact⟨rfl,HBx.out⟩
  ·have q0:(en !=0)=true:= by simpa using hen
   go_wp2_with(go_at_call 9;((with_reducible refine(wakes19 _).mono ?_);rintro e wk ⟨rfl,hb⟩;replace HBx:=Lib.hid (HBx.out.trans (hb.mono HBx.out.size));clear hb))
   go_returns
   exact⟨rfl,HBx.out⟩
theorem law_sonce (s:St) (r:Raw) (x:WEnt) (px:PEnt) (w:World) (h:StAt w 0 r s) (hi:InI s.stamp) (hl1:s.tens.length≤ 1000000000000000) (hl2:s.leas.length≤ 1000000000000000) (hl3:s.sess.length≤ 1000000000000000) (hl4:s.dsks.length≤ 1000000000000000)
 (hx:RowB w px.1 x.data∧x.data.length≤ px.2∧x.data.length≤ 1000000000000000∧InI x.stamp):
 Calls Tryz.prog 5 #[r.agg,valEnt x px] w fun e w'=>e= .returned (.bool true)∧Below w.heap.size w w':=by
 by_cases hb:stateOk s=true∧ x.kind=2∧ 1≤x.term∧ 0≤x.stamp
 ·exact sonce_good s r x px w h hi hl1 hl2 hl3 hl4 hx hb.1 hb.2.1 hb.2.2.1 hb.2.2.2
 ·exact sonce_bad s r x px w h hi hl1 hl2 hl3 hl4 hx hb
end Go.Proofs.YtfdmhpohfjbpfaaGreat
