import Derived.Test.YtfdmhpohfjbpfaaGreatSq13
set_option linter.unusedVariables false
set_option linter.unusedSimpArgs false
namespace Go.Proofs.YtfdmhpohfjbpfaaGreat
open Go.ChangeShapes Go.WideShapes Go.ChangeAt Go.RowKit
set_option maxRecDepth 100000
theorem steps_any (b b1 b2:Int) (g:Nat) (f1 f2:FuncId) (c1 c2:Array Value) (w:World)
 (h0:w.cell? ⟨g,0,none⟩=some (.func (.func f1) #[] c1)) (h1:w.cell? ⟨g,1,none⟩=some (.func (.func f2) #[] c2))
 (he1:∀(args:Array Value) (w:World),(callFunc f1 args).run Tryz.prog w= .ok (.enter f1 args) w) (he2:∀(args:Array Value) (w:World),(callFunc f2 args).run Tryz.prog w= .ok (.enter f2 args) w)
 (hf1:∀w',Below w.heap.size w w'→Calls Tryz.prog f1 (#[.int .i64 b]++c1) w' fun e w''=>e= .returned (.int .i64 b1)∧Below w'.heap.size w' w'')
 (hf2:∀w',Below w.heap.size w w'→Calls Tryz.prog f2 (#[.int .i64 b1]++c2) w' fun e w''=>e= .returned (.int .i64 b2)∧Below w'.heap.size w' w''):
 Calls Tryz.prog 102 #[.int .i64 b,.slice (some ⟨g,0,none⟩) 2 2] w fun e w'=>e= .returned (.int .i64 b2)∧Below w.heap.size w w':=by
 have hlt:=World.block_lt_of_cell? w _ h0
 simp only at hlt
 have HF1:=Lib.hid hf1
 have HF2:=Lib.hid hf2
 have H0:=Lib.hid h0
 have H1:=Lib.hid h1
 clear hf1 hf2 h0 h1
 go_enter Tryz.func102,Tryz.ntmps102
 go_wp2
 go_loopw [0,9] (fun v i wr=>∃k: Nat,k≤2∧ i= .int .i64 k∧v= .int .i64 (if k=0 then b else if k=1 then b1 else b2)∧Below w.heap.size w wr) (fun _ i _=>2- (intOf i).toNat)
 case atStart=>exact ⟨0,by omega,rfl,rfl,Below.refl _ _⟩
 case round=>
  obtain⟨k,hk,rfl,rfl,hb⟩:=hrel
  have hc0:=(hb.cell (p:=⟨g,0,none⟩) hlt).trans H0.out
  have hc1:=(hb.cell (p:=⟨g,1,none⟩) hlt).trans H1.out
  by_cases e0:k= 0
  ·subst e0
   go_wp2_with(refine(HF1.out wr hb).mono ?_;rintro e w2 ⟨rfl,hb2⟩)
   go_roundw
   case rel=>exact ⟨1,by omega,rfl,rfl,hb.trans (hb2.mono hb.size)⟩
   case measure=>simp [intOf]
  ·by_cases e1:k= 1
   ·subst e1
    go_wp2_with(refine(HF2.out wr hb).mono ?_;rintro e w2 ⟨rfl,hb2⟩)
    go_roundw
    case rel=>exact ⟨2,by omega,rfl,rfl,hb.trans (hb2.mono hb.size)⟩
    case measure=>simp [intOf]
   ·obtain rfl:k= 2:=by omega
    go_wp2
    go_returns
    exact⟨rfl,hb⟩
theorem cut1_any (b burst out:Int) (bb bo:Nat) (w:World) (hb:w.cell? ⟨bb,0,none⟩=some (.int .i64 burst)) (ho:w.cell? ⟨bo,0,none⟩=some (.int .i64 out)):
 Calls Tryz.prog 105 #[.int .i64 b,.pointer (some ⟨bb,0,none⟩),.pointer (some ⟨bo,0,none⟩)] w fun e w'=>e= .returned (.int .i64 (cutI b burst out))∧Below w.heap.size w w':=by
 go_enter Tryz.func105,Tryz.ntmps105
 go_wp2_with(go_at_call 106;((with_reducible refine(cut_any _ _ _ _).mono ?_);rintro e w' ⟨rfl,rfl⟩))
 go_returns
 exact⟨rfl,Below.refl _ _⟩
theorem cut2_any (b burst out:Int) (bb bo:Nat) (w:World) (hb:w.cell? ⟨bb,0,none⟩=some (.int .i64 burst)) (ho:w.cell? ⟨bo,0,none⟩=some (.int .i64 out)):
 Calls Tryz.prog 169 #[.int .i64 b,.pointer (some ⟨bb,0,none⟩),.pointer (some ⟨bo,0,none⟩)] w fun e w'=>e= .returned (.int .i64 (cutI b burst out))∧Below w.heap.size w w':=by
 go_enter Tryz.func169,Tryz.ntmps169
 go_wp2_with(go_at_call 106;((with_reducible refine(cut_any _ _ _ _).mono ?_);rintro e w' ⟨rfl,rfl⟩))
 go_returns
 exact⟨rfl,Below.refl _ _⟩
theorem enter_cut1 (args:Array Value) (w:World):(callFunc 105 args).run Tryz.prog w= .ok (.enter 105 args) w:=by kernel_rfl
theorem enter_cut2 (args:Array Value) (w:World):(callFunc 169 args).run Tryz.prog w= .ok (.enter 169 args) w:=by kernel_rfl
theorem two_boxes (w:World) (x y:Int) (w':World) (hb:Below ((w.alloc (.cells #[.int .i64 x] 3)).alloc (.cells #[.int .i64 y] 3)).heap.size ((w.alloc (.cells #[.int .i64 x] 3)).alloc (.cells #[.int .i64 y] 3)) w'):
 w'.cell? ⟨w.heap.size,0,none⟩=some (.int .i64 x)∧w'.cell? ⟨w.heap.size+1,0,none⟩=some (.int .i64 y):=⟨by
 rw[hb.cell (p:=⟨w.heap.size,0,none⟩) (by simp;omega),World.cell?_alloc_past _ _ _ (by simp)];exact World.cell?_alloc_at _ _ _ 0 rfl,by
 rw[hb.cell (p:=⟨w.heap.size+1,0,none⟩) (by simp)]
 exact World.cell?_alloc_at #[.int .i64 y] 3 (w.heap.size+1) 0 (by simp)⟩
theorem two_fns {w:World} (f1 f2:Value) (t:TypeId):(w.alloc (.cells #[f1,f2] t)).cell? ⟨w.heap.size,0,none⟩=some f1∧(w.alloc (.cells #[f1,f2] t)).cell? ⟨w.heap.size,1,none⟩=some f2:=⟨World.cell?_alloc_at _ _ _ 0 rfl,World.cell?_alloc_at _ _ _ 1 rfl⟩
theorem mid_alloc {w w':World} {o:Obj} (hb:Below (w.alloc o).heap.size (w.alloc o) w'):Below w.heap.size w w':=((Below.refl w.heap.size w).alloc (Nat.le_refl _) o).trans (hb.mono (by simp))
set_option maxHeartbeats 1000000 in
theorem credit_any (b rate burst out ticks:Int) (w:World):Calls Tryz.prog 59 #[.int .i64 b,.int .i64 rate,.int .i64 burst,.int .i64 out,.int .i64 ticks] w fun e w'=>e= .returned (.int .i64 (creditI b rate burst out ticks))∧Below w.heap.size w w':=by
 obtain⟨hr1,hr2⟩:=broughtI_range rate 0 1000000 (by omega)
 obtain⟨ht1,ht2⟩:=broughtI_range ticks 0 1099511627776 (by omega)
 have hmf:∀(fn:Fn) (first cap:Array Value) (w:World),(Instr.makeFunc fn first cap).run Tryz.prog w= .ok (.func fn first cap) w:=fun _ _ _ _=>rfl
 have HBR:=Lib.hid (brought_any rate 0 1000000)
 have HBT:=Lib.hid (brought_any ticks 0 1099511627776)
 have HC:Hid (creditI b rate burst out ticks=cutI (broughtI b 0 2305843009213693952+broughtI rate 0 1000000*broughtI ticks 0 1099511627776) burst out):=rfl
 generalize creditI b rate burst out ticks=res at HC ⊢
 generalize broughtI rate 0 1000000=n at hr1 hr2 HBR HC
 generalize broughtI ticks 0 1099511627776=k at ht1 ht2 HBT HC
 obtain⟨n,rfl⟩:=Int.eq_ofNat_of_zero_le hr1
 obtain⟨k,rfl⟩:=Int.eq_ofNat_of_zero_le ht1
 have HB0:=Lib.hid (two_boxes w burst out)
 have HE:Hid (cutI (broughtI b 0 2305843009213693952+((n*k: Nat):Int)) burst out=res):=by show _=_;rw[HC.out];simp
 have hn:n≤ 1000000:=by omega
 have hk:k≤ 1099511627776:=by omega
 have HNK:=Lib.hid (And.intro hn hk)
 clear HC hr1 ht1 hr2 ht2 hn hk
 go_enter Tryz.func59,Tryz.ntmps59
 go_wp2_with(first|(go_at_call 104;((with_reducible refine(HBR.out _).mono ?_);rintro e w' ⟨rfl,rfl⟩))|(go_at_call 104;((with_reducible refine(HBT.out _).mono ?_);rintro e w' ⟨rfl,rfl⟩))|(go_at_call 103;((with_reducible refine(more_any _ _ _).mono ?_);rintro e w2 ⟨rfl,hc2,hb2⟩;simp only[World.size_alloc]at hc2;have HC2:=Lib.hid hc2;have HB2:=Lib.hid (fun w' hb=>HB0.out w' (hb2.trans (Below.mono hb hb2.size)));clear hc2))|(go_at_call 102;((with_reducible refine(steps_any b (broughtI b 0 2305843009213693952+((n*k: Nat):Int)) (cutI (broughtI b 0 2305843009213693952+((n*k: Nat):Int)) burst out) w2.heap.size 151 105 _ _ _ (two_fns _ _ _).1 (two_fns _ _ _).2 enter_more1 enter_cut1 (fun w' hb=>more1_any b n k _ _ w' HNK.out.1 HNK.out.2 (HC2.out w' (mid_alloc hb)).1 (HC2.out w' (mid_alloc hb)).2) (fun w' hb=>cut1_any _ burst out _ _ w' (HB2.out w' (mid_alloc hb)).1 (HB2.out w' (mid_alloc hb)).2)).mono ?_);rw[HE.out];rintro e w3 ⟨rfl,hb3⟩)))
 go_returns
 exact⟨rfl,belo⟩
set_option maxHeartbeats 1000000 in
theorem back_any (b burst out size:Int) (w:World):Calls Tryz.prog 126 #[.int .i64 b,.int .i64 burst,.int .i64 out,.int .i64 size] w fun e w'=>e= .returned (.int .i64 (backI b burst out size))∧Below w.heap.size w w':=by
 obtain⟨ht1,ht2⟩:=broughtI_range size 0 1000000 (by omega)
 have hmf:∀(fn:Fn) (first cap:Array Value) (w:World),(Instr.makeFunc fn first cap).run Tryz.prog w= .ok (.func fn first cap) w:=fun _ _ _ _=>rfl
 have HBT:=Lib.hid (brought_any size 0 1000000)
 have HC:Hid (backI b burst out size=cutI (broughtI b 0 2305843009213693952+1000* broughtI size 0 1000000) burst out):=rfl
 generalize backI b burst out size=res at HC ⊢
 generalize broughtI size 0 1000000=k at ht1 ht2 HBT HC
 obtain⟨k,rfl⟩:=Int.eq_ofNat_of_zero_le ht1
 have HB0:=Lib.hid (two_boxes w burst out)
 have HE:Hid (cutI (broughtI b 0 2305843009213693952+((1000*k: Nat):Int)) burst out=res):=by show _=_;rw[HC.out];simp
 have hk:k≤ 1099511627776:=by omega
 have HNK:=Lib.hid hk
 clear HC ht1 ht2 hk
 go_enter Tryz.func126,Tryz.ntmps126
 go_wp2_with(first|(go_at_call 104;((with_reducible refine(HBT.out _).mono ?_);rintro e w' ⟨rfl,rfl⟩))|(go_at_call 103;((with_reducible refine(more_any _ _ _).mono ?_);rintro e w2 ⟨rfl,hc2,hb2⟩;simp only[World.size_alloc]at hc2;have HC2:=Lib.hid hc2;have HB2:=Lib.hid (fun w' hb=>HB0.out w' (hb2.trans (Below.mono hb hb2.size)));clear hc2))|(go_at_call 102;((with_reducible refine(steps_any b (broughtI b 0 2305843009213693952+((1000*k: Nat):Int)) (cutI (broughtI b 0 2305843009213693952+((1000*k: Nat):Int)) burst out) w2.heap.size 151 169 _ _ _ (two_fns _ _ _).1 (two_fns _ _ _).2 enter_more1 enter_cut2 (fun w' hb=>more1_any b 1000 k _ _ w' (by omega) HNK.out (HC2.out w' (mid_alloc hb)).1 (HC2.out w' (mid_alloc hb)).2) (fun w' hb=>cut2_any _ burst out _ _ w' (HB2.out w' (mid_alloc hb)).1 (HB2.out w' (mid_alloc hb)).2)).mono ?_);rw[HE.out];rintro e w3 ⟨rfl,hb3⟩)))
 go_returns
 exact⟨rfl,belo⟩
theorem scopyTen (xs:List Tenant) (a:Option Addr) (n c:Nat) (w:World) (hn:xs.length= n) (hby:n* (layTen).bytes≤140737488355328) (hr:LRow layTen w a xs):
 Calls Tryz.prog 44 #[.slice a n c] w (RetOwnTen w xs):=by
 subst hn
 have HR:=Lib.hid hr
 clear hr
 go_enter Tryz.func44,Tryz.ntmps44
 go_wp2_with(at_builtin;refine wpList_can ((layTen).elem Tryz.underlying22) rfl _ _ rfl w.heap.size none 0 0 [] rfl (Can.nil _ _ _ _) _ xs.length _ (xs.flatMap (layTen).cells) rfl ((layTen).length _) HR.out ((layTen).ones _) (by rw[Nat.zero_add];exact hby) (Nat.le_refl _) ?_;intro a' c' w3 hcan3 _ hb3 hown)
 go_returns
 rw[Nat.zero_add,List.nil_append]at hcan3 hown
 have hnear:Near w.heap.size none a':=by
  by_cases h0:0< xs.length
  ·exact Near.own (hown.1 h0) (Nat.le_refl _)
  ·rw[(hown.2 (by omega)).1];exact Near.nil _ _
 have hblt:∀b o s,a'=some ⟨b,o,s⟩→b< w3.heap.size:=fun b o s hab=>by
  by_cases h0:0< xs.length
  ·exact((hown.1 h0).lt b (by rw[hab];rfl)).2
  ·rw[(hown.2 (by omega)).1]at hab
   cases hab
 exact⟨a',c',rfl,hnear,hcan3,fun h=>hown.1 h,hblt,hb3⟩
theorem scopyLea (xs:List Lease) (a:Option Addr) (n c:Nat) (w:World) (hn:xs.length= n) (hby:n* (layLea).bytes≤140737488355328) (hr:LRow layLea w a xs):
 Calls Tryz.prog 45 #[.slice a n c] w (RetOwnLea w xs):=by
 subst hn
 have HR:=Lib.hid hr
 clear hr
 go_enter Tryz.func45,Tryz.ntmps45
 go_wp2_with(at_builtin;refine wpList_can ((layLea).elem Tryz.underlying23) rfl _ _ rfl w.heap.size none 0 0 [] rfl (Can.nil _ _ _ _) _ xs.length _ (xs.flatMap (layLea).cells) rfl ((layLea).length _) HR.out ((layLea).ones _) (by rw[Nat.zero_add];exact hby) (Nat.le_refl _) ?_;intro a' c' w3 hcan3 _ hb3 hown)
 go_returns
 rw[Nat.zero_add,List.nil_append]at hcan3 hown
 have hnear:Near w.heap.size none a':=by
  by_cases h0:0< xs.length
  ·exact Near.own (hown.1 h0) (Nat.le_refl _)
  ·rw[(hown.2 (by omega)).1];exact Near.nil _ _
 have hblt:∀b o s,a'=some ⟨b,o,s⟩→b< w3.heap.size:=fun b o s hab=>by
  by_cases h0:0< xs.length
  ·exact((hown.1 h0).lt b (by rw[hab];rfl)).2
  ·rw[(hown.2 (by omega)).1]at hab
   cases hab
 exact⟨a',c',rfl,hnear,hcan3,fun h=>hown.1 h,hblt,hb3⟩
theorem scopySes (xs:List Session) (a:Option Addr) (n c:Nat) (w:World) (hn:xs.length= n) (hby:n* (laySes).bytes≤140737488355328) (hr:LRow laySes w a xs):
 Calls Tryz.prog 46 #[.slice a n c] w (RetOwnSes w xs):=by
 subst hn
 have HR:=Lib.hid hr
 clear hr
 go_enter Tryz.func46,Tryz.ntmps46
 go_wp2_with(at_builtin;refine wpList_can ((laySes).elem Tryz.underlying24) rfl _ _ rfl w.heap.size none 0 0 [] rfl (Can.nil _ _ _ _) _ xs.length _ (xs.flatMap (laySes).cells) rfl ((laySes).length _) HR.out ((laySes).ones _) (by rw[Nat.zero_add];exact hby) (Nat.le_refl _) ?_;intro a' c' w3 hcan3 _ hb3 hown)
 go_returns
 rw[Nat.zero_add,List.nil_append]at hcan3 hown
 have hnear:Near w.heap.size none a':=by
  by_cases h0:0< xs.length
  ·exact Near.own (hown.1 h0) (Nat.le_refl _)
  ·rw[(hown.2 (by omega)).1];exact Near.nil _ _
 have hblt:∀b o s,a'=some ⟨b,o,s⟩→b< w3.heap.size:=fun b o s hab=>by
  by_cases h0:0< xs.length
  ·exact((hown.1 h0).lt b (by rw[hab];rfl)).2
  ·rw[(hown.2 (by omega)).1]at hab
   cases hab
 exact⟨a',c',rfl,hnear,hcan3,fun h=>hown.1 h,hblt,hb3⟩
theorem scopyDsk (xs:List Desk) (a:Option Addr) (n c:Nat) (w:World) (hn:xs.length= n) (hby:n* (layDsk).bytes≤140737488355328) (hr:LRow layDsk w a xs):
 Calls Tryz.prog 47 #[.slice a n c] w (RetOwnDsk w xs):=by
 subst hn
 have HR:=Lib.hid hr
 clear hr
 go_enter Tryz.func47,Tryz.ntmps47
 go_wp2_with(at_builtin;refine wpList_can ((layDsk).elem Tryz.underlying25) rfl _ _ rfl w.heap.size none 0 0 [] rfl (Can.nil _ _ _ _) _ xs.length _ (xs.flatMap (layDsk).cells) rfl ((layDsk).length _) HR.out ((layDsk).ones _) (by rw[Nat.zero_add];exact hby) (Nat.le_refl _) ?_;intro a' c' w3 hcan3 _ hb3 hown)
 go_returns
 rw[Nat.zero_add,List.nil_append]at hcan3 hown
 have hnear:Near w.heap.size none a':=by
  by_cases h0:0< xs.length
  ·exact Near.own (hown.1 h0) (Nat.le_refl _)
  ·rw[(hown.2 (by omega)).1];exact Near.nil _ _
 have hblt:∀b o s,a'=some ⟨b,o,s⟩→b< w3.heap.size:=fun b o s hab=>by
  by_cases h0:0< xs.length
  ·exact((hown.1 h0).lt b (by rw[hab];rfl)).2
  ·rw[(hown.2 (by omega)).1]at hab
   cases hab
 exact⟨a',c',rfl,hnear,hcan3,fun h=>hown.1 h,hblt,hb3⟩
set_option maxHeartbeats 4000000 in
theorem refout_any (ls:List Lease) (r:Raw) (id:Int) (w:World) (hl:ls.length= r.lea.n) (h64:ls.length≤ 1000) (hf:Fits ls) (hr:LRow layLea w r.lea.a ls):
 Calls Tryz.prog 31 #[r.agg,.int .i64 id] w fun e w'=>e= .returned (.int .i64 (outL ls id))∧Below w.heap.size w w':=by
 obtain⟨term,stamp,next,⟨a1,n1,c1⟩,⟨a,n,c⟩,⟨a3,n3,c3⟩,⟨a4,n4,c4⟩⟩:=r
 simp only at hl hr
 subst hl
 have HF:=Lib.hid hf
 have HRG:=Lib.hid (fun(k:Nat) (hk:k≤ ls.length)=>outL_range id (hf.sub (m:=ls.take k) (fun x hx=>List.mem_of_mem_take hx)))
 have HT:=Lib.hid (fun k (h:k< ls.length)=>outL_take h id)
 have HE:Hid (outL (ls.take ls.length) id=outL ls id):=by show _=_;rw[List.take_length]
 generalize outL ls id=res at HE ⊢
 clear hf
 go_enter Tryz.func31,Tryz.ntmps31
 go_wp2
 go_loopw [5,6] (fun z i wr=>∃k: Nat,∃v: Int,k≤ls.length∧ i= .int .i64 k∧z= .int .i64 v∧Hid (v=outL (ls.take k) id)∧Below (w.alloc (.cells #[.int .i64 term,.int .i64 stamp,.int .i64 next,.slice a1 n1 c1,.slice a ls.length c,.slice a3 n3 c3,.slice a4 n4 c4] 27)).heap.size (w.alloc (.cells #[.int .i64 term,.int .i64 stamp,.int .i64 next,.slice a1 n1 c1,.slice a ls.length c,.slice a3 n3 c3,.slice a4 n4 c4] 27)) wr) (fun _ i _=>ls.length- (intOf i).toNat)
 case atStart=>exact ⟨0,0,by omega,rfl,rfl,rfl,Below.refl _ _⟩
 case round=>
  obtain⟨k,v,hk,rfl,rfl,hv,hb0⟩:=hrel
  have hb:Below w.heap.size w wr:=mid_alloc' hb0
  have hbx:Box wr w.heap.size [.int .i64 term,.int .i64 stamp,.int .i64 next,.slice a1 n1 c1,.slice a ls.length c,.slice a3 n3 c3,.slice a4 n4 c4]:=Box.of_alloc hb0
  have k4:=hbx.cell (j:=4) rfl
  clear hbx
  by_cases hlt:k< ls.length
  ·have hR:=HRG.out k hk
   have hlen:(ls.take k).length=k:= by simp;omega
   rw[hlen,←hv.out]at hR
   obtain⟨hR1,hR2⟩:=hR
   have HT1:=Lib.hid (HT.out k hlt)
   have hX:=HF.out ls[k] (List.getElem_mem hlt)
   obtain⟨b,o,ha,hcs⟩:=atLea hr hlt
   subst ha
   have hx:=hcs _ hb
   generalize ls[k]=x at hx HT1 hX
   clear hcs
   obtain⟨xid,xten,xsh,xep,xnu,xsz,xsp⟩:=x
   obtain⟨x0,x1,_,_,_,x5,x6⟩:=hx
   simp only at x1 x5 x6 hX
   obtain⟨_,_,g1,g2,g3,g4⟩:=hX
   have HB:=Lib.hid hb0
   by_cases he:xten= id
   ·have hw1:IntKind.i64.wrap (v+xsz)=v+ xsz:=IntWalk.i64_in _ ⟨by omega,by omega⟩
    have hw2:IntKind.i64.wrap (v+xsz- xsp)=v+ xsz-xsp:= IntWalk.i64_in _ ⟨by omega,by omega⟩
    subst he
    go_wp2
    go_quiet (fail)
    go_wp2
    go_roundw
    case rel=>exact ⟨k+1,v+xsz- xsp,by omega,by go_num,rfl,by show _=_;rw[HT1.out,←hv.out];simp;omega,below_drewN HB.out _⟩
    case measure=>simp [intOf];omega
   ·go_wp2
    go_roundw
    case rel=>exact ⟨k+1,v,by omega,by go_num,rfl,by show _=_;rw[HT1.out,←hv.out];simp[he],HB.out⟩
    case measure=>simp [intOf];omega
  ·obtain rfl:k= ls.length:=by omega
   go_wp2
   go_returns
   exact⟨ret_int (hv.out.trans HE.out),hb⟩
end Go.Proofs.YtfdmhpohfjbpfaaGreat
