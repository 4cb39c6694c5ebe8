import Derived.Test.YtfdmhpohfjbpfaaGreatSq18
set_option linter.unusedVariables false
set_option linter.unusedSimpArgs false
namespace Go.Proofs.YtfdmhpohfjbpfaaGreat
open Go.ChangeShapes Go.WideShapes Go.ChangeAt Go.RowKit
set_option maxRecDepth 100000
set_option maxHeartbeats 4000000 in
theorem catch_command (gx ga ge f:Nat) (cs:List Value) (w:World) (hx:Box w gx cs) (hl:cs.length= 13) (ha:Box w ga [.int .i64 0]) (he:Box w ge [.int .i64 0]) (h1:gx≠ ga) (h2:gx≠ ge) (h3:ga≠ ge):
 CallsD Tryz.prog 107 #[.pointer (some ⟨gx,0,none⟩),.pointer (some ⟨ga,0,none⟩),.pointer (some ⟨ge,0,none⟩)] (.panicking [{v:= .iface 143 (.agg #[.int .i64 f]),recovered:=false}]) w (RetCaught gx ga ge f [.int .i8 0,.int .i64 0,.int .i64 0,.int .i64 0,.int .i64 0,.int .i64 0,.int .i64 0,.int .i64 0,.int .i64 0,.int .i64 0,.int .i64 0,.bool false,.slice none 0 0] w):=by
 have hta:∀w,(Instr.typeAssert (.iface 143 (.agg #[.int .i64 f])) 20 143 true).run Tryz.prog w= .ok (.tuple #[.agg #[.int .i64 f],.bool true]) w:=fun _=>by kernel_rfl
 refine callsD_of_wpS Tryz.func107 rfl fun c₀ cs₀ hu=> ?_
 apply wpS_seq
 apply wpS_region
 generalize hQ:Exit.thenS _ _=Q0
 simp[wpOpsS,go_sem,recoverD,hu,Tryz.ntmps107,Array.replicate,List.replicate]
 subst hQ
 refine(wpS_of_wp ?_:Code.wpS _ _ _ _ _ _)
 clear hu
 generalize hPOST:(fun e a' w'=>bodyPostS _ _ _ _ _ _ _ _ _)=POST
 have HP:=Lib.hid hPOST
 clear hPOST
 obtain⟨c0,c1,c2,c3,c4,c5,c6,c7,c8,c9,c10,c11,c12,rfl⟩:∃c0 c1 c2 c3 c4 c5 c6 c7 c8 c9 c10 c11 c12,cs=[c0,c1,c2,c3,c4,c5,c6,c7,c8,c9,c10,c11,c12]:=by
  match cs,hl with
  |[c0,c1,c2,c3,c4,c5,c6,c7,c8,c9,c10,c11,c12],_=>exact ⟨c0,c1,c2,c3,c4,c5,c6,c7,c8,c9,c10,c11,c12,rfl⟩
 have x0:=hx.cell (j:=0) rfl
 have z0:=hx.froz (j:=0) (by simp)
 have x1:=hx.cell (j:=1) rfl
 have z1:=hx.froz (j:=1) (by simp)
 have x2:=hx.cell (j:=2) rfl
 have z2:=hx.froz (j:=2) (by simp)
 have x3:=hx.cell (j:=3) rfl
 have z3:=hx.froz (j:=3) (by simp)
 have x4:=hx.cell (j:=4) rfl
 have z4:=hx.froz (j:=4) (by simp)
 have x5:=hx.cell (j:=5) rfl
 have z5:=hx.froz (j:=5) (by simp)
 have x6:=hx.cell (j:=6) rfl
 have z6:=hx.froz (j:=6) (by simp)
 have x7:=hx.cell (j:=7) rfl
 have z7:=hx.froz (j:=7) (by simp)
 have x8:=hx.cell (j:=8) rfl
 have z8:=hx.froz (j:=8) (by simp)
 have x9:=hx.cell (j:=9) rfl
 have z9:=hx.froz (j:=9) (by simp)
 have x10:=hx.cell (j:=10) rfl
 have z10:=hx.froz (j:=10) (by simp)
 have x11:=hx.cell (j:=11) rfl
 have z11:=hx.froz (j:=11) (by simp)
 have x12:=hx.cell (j:=12) rfl
 have z12:=hx.froz (j:=12) (by simp)
 have a0:=ha.cell (j:=0) rfl
 have b0:=ha.froz (j:=0) (by simp)
 have e0:=he.cell (j:=0) rfl
 have f0:=he.froz (j:=0) (by simp)
 have l1:=hx.lt (by simp)
 have l2:=ha.lt (by simp)
 have l3:=he.lt (by simp)
 have HX:=Lib.hid hx
 have HA:=Lib.hid ha
 have HE:=Lib.hid he
 clear hx ha he hl
 go_wp2
 go_region
 rw[←HP.out]
 exact⟨rfl,_,rfl,_,results_none rfl _ _ _,rfl,rfl,caught_of HX.out rfl (by simp) HA.out HE.out h1 h2 h3⟩
set_option maxHeartbeats 1000000 in
theorem idle_command (gx ga ge:Nat) (w:World):
 CallsD Tryz.prog 107 #[.pointer (some ⟨gx,0,none⟩),.pointer (some ⟨ga,0,none⟩),.pointer (some ⟨ge,0,none⟩)] .returning w fun e u' w'=>e= .returned (.tuple #[])∧u'= .returning∧w'= w:=by
 refine callsD_of_wpS Tryz.func107 rfl fun c₀ cs₀ hu=> ?_
 apply wpS_seq
 apply wpS_region
 generalize hQ:Exit.thenS _ _=Q0
 simp[wpOpsS,go_sem,recoverD,hu,Tryz.ntmps107,Array.replicate,List.replicate]
 subst hQ
 refine(wpS_of_wp ?_:Code.wpS _ _ _ _ _ _)
 have hc:c₀:: cs₀={c₀ with mode:= .returning}::cs₀:= by rw[←hu]
 have HC:=Lib.hid hc
 clear hu hc
 generalize hPOST:(fun e a' w'=>bodyPostS _ _ _ _ _ _ _ _ _)=POST
 have HP:=Lib.hid hPOST
 clear hPOST
 go_wp2
 rw[←HP.out]
 exact⟨rfl,_,HC.out,_,results_none rfl _ _ _,rfl,rfl,rfl⟩
def RetRdCmd (w:World) (r:WCmd× Nat×Int) (e:Ending) (w':World):Prop:= ∃p,e= .returned (.tuple #[valCmd r.1 p,.int .i64 r.2.1,.int .i64 r.2.2])∧MemCmd w w' r.1 p∧Below w.heap.size w w'
set_option maxHeartbeats 4000000 in
theorem read_command (a:Option Addr) (c:Nat) (bs:List UInt8) (w:World) (hr:RowB w a bs) (hc:bs.length≤ c) (hl:bs.length≤ 1048576):
 Calls Tryz.prog 60 #[.slice a bs.length c,.func (.func 61) #[] #[]] w (RetRdCmd w (readP zCmd wCmdP bs)):=by
 have hmf:∀(fn:Fn) (first cap:Array Value) (w:World),(Instr.makeFunc fn first cap).run Tryz.prog w= .ok (.func fn first cap) w:=fun _ _ _ _=>rfl
 obtain⟨W,hW⟩:∃W,W=(((w.alloc (.cells #[.int .i8 0,.int .i64 0,.int .i64 0,.int .i64 0,.int .i64 0,.int .i64 0,.int .i64 0,.int .i64 0,.int .i64 0,.int .i64 0,.int .i64 0,.bool false,.slice none 0 0] 54)).alloc (.cells #[.int .i64 0] 3)).alloc (.cells #[.int .i64 0] 38)).alloc (.cells #[.slice a bs.length c,.int .i64 0,.bool true] 141):=⟨_,rfl⟩
 have hS:W.heap.size= w.heap.size+4:= by rw[hW];simp
 have hBX:Box W w.heap.size [.int .i8 0,.int .i64 0,.int .i64 0,.int .i64 0,.int .i64 0,.int .i64 0,.int .i64 0,.int .i64 0,.int .i64 0,.int .i64 0,.int .i64 0,.bool false,.slice none 0 0]:=by rw[hW];exact Box.of_alloc (mid_alloc' (mid_alloc' (mid_alloc' (Below.refl _ _))))
 have hBA:Box W (w.heap.size+1) [.int .i64 0]:=by rw[hW];exact Box.of_alloc1 (mid_alloc' (mid_alloc' (Below.refl _ _)))
 have hBE:Box W (w.heap.size+1+ 1) [.int .i64 0]:=by rw[hW];exact Box.of_alloc2 (mid_alloc' (Below.refl _ _))
 have hBC:Box W (w.heap.size+3) [.slice a bs.length c,.int .i64 (0:Nat),.bool true]:=by
  have h1:Box W ((((w.alloc (.cells #[.int .i8 0,.int .i64 0,.int .i64 0,.int .i64 0,.int .i64 0,.int .i64 0,.int .i64 0,.int .i64 0,.int .i64 0,.int .i64 0,.int .i64 0,.bool false,.slice none 0 0] 54)).alloc (.cells #[.int .i64 0] 3)).alloc (.cells #[.int .i64 0] 38)).heap.size) [.slice a bs.length c,.int .i64 0,.bool true]:=by rw[hW];exact Box.of_alloc (Below.refl _ _)
  simpa using h1
 have hB:Below w.heap.size w W:=by rw[hW];exact mid_alloc' (mid_alloc' (mid_alloc' (mid_alloc' (Below.refl _ _))))
 have hrow:=hr.below hB
 have hlow:∀b o s,rowA a bs=some ⟨b,o,s⟩→b< w.heap.size:=fun b o s h=>by
  unfold rowA at h
  split at h
  ·cases h
  ·rename_i h0
   rcases hr with h1|⟨b1,o1,rfl,h1⟩
   ·exact absurd (by simpa using h1) h0
   ·have:=Row.lt (.inr ⟨b1,o1,rfl,h1⟩) (by simpa using h0)
    simp only[Option.some.injEq,Addr.mk.injEq]at h
    omega
 have hcr:Cr W (w.heap.size+3) a c bs 0:=⟨hBC,hrow,by omega,hc,fun b o s h=>by have:=hlow b o s h;omega⟩
 have hoff:Off (w.heap.size+3) (rowA a bs) w.heap.size:=⟨by omega,fun o s h=>by have:=hlow _ o s h;omega⟩
 have HAN:=Lib.hid (command_t (w.heap.size+3) c 0 w.heap.size a bs W hcr (by omega) hBX hoff)
 have HBA:=Lib.hid hBA
 have HBE:=Lib.hid hBE
 have HB:=Lib.hid hB
 have HS:=Lib.hid hS
 clear hBX hBA hBE hBC hrow hcr hoff hlow hr hS hB
 rw[hW]at HAN
 have HW:=Lib.hid hW
 clear hW
 go_enter_defers Tryz.func60,Tryz.ntmps60
 go_wp2_with(go_at_call 61;((with_reducible refine HAN.out.mono ?_);rw[←HW.out];rintro en w1 ⟨ht,⟨⟨v0,v1,v2,v3,v4,v5,v6,v7,v8,v9,v10,v11,v12⟩,q,hr,rfl,hc,⟨p0,p1⟩,hb,hm⟩|⟨f,hr,rfl,hb⟩⟩<;>have hA:=HBA.out.keep (by simp) ht (by have:=HS.out;omega)<;>have hE:=HBE.out.keep (by simp) ht (by have:=HS.out;omega)<;>have HT1:=Lib.hid ht<;>have HR:=Lib.hid hr<;>have a0:=hA.cell (j:=0) rfl<;>have b0:=hA.froz (j:=0) (by simp)<;>have e0:=hE.cell (j:=0) rfl<;>have f0:=hE.froz (j:=0) (by simp)<;>have HA1:=Lib.hid hA<;>have HE1:=Lib.hid hE<;>clear ht hr hA hE;all_goals(first|(replace hb:Box w1 w.heap.size [.int .i8 v0,.int .i64 v1,.int .i64 v2,.int .i64 v3,.int .i64 v4,.int .i64 v5,.int .i64 v6,.int .i64 v7,.int .i64 v8,.int .i64 v9,.int .i64 v10,.bool v11,.slice p0 v12.length p1]:=hb;have x0:=hb.cell (j:=0) rfl;have z0:=hb.froz (j:=0) (by simp);have x1:=hb.cell (j:=1) rfl;have z1:=hb.froz (j:=1) (by simp);have x2:=hb.cell (j:=2) rfl;have z2:=hb.froz (j:=2) (by simp);have x3:=hb.cell (j:=3) rfl;have z3:=hb.froz (j:=3) (by simp);have x4:=hb.cell (j:=4) rfl;have z4:=hb.froz (j:=4) (by simp);have x5:=hb.cell (j:=5) rfl;have z5:=hb.froz (j:=5) (by simp);have x6:=hb.cell (j:=6) rfl;have z6:=hb.froz (j:=6) (by simp);have x7:=hb.cell (j:=7) rfl;have z7:=hb.froz (j:=7) (by simp);have x8:=hb.cell (j:=8) rfl;have z8:=hb.froz (j:=8) (by simp);have x9:=hb.cell (j:=9) rfl;have z9:=hb.froz (j:=9) (by simp);have x10:=hb.cell (j:=10) rfl;have z10:=hb.froz (j:=10) (by simp);have x11:=hb.cell (j:=11) rfl;have z11:=hb.froz (j:=11) (by simp);have x12:=hb.cell (j:=12) rfl;have z12:=hb.froz (j:=12) (by simp);have HC1:=Lib.hid hc;have HB1:=Lib.hid hb;have HM1:=Lib.hid hm;have r1:=hc.box.cell (j:=1) rfl;clear hc hb hm)|skip)))
 ·
  refine leaves_cons (f:=107) (args:= #[.pointer (some ⟨w.heap.size,0,none⟩),.pointer (some ⟨w.heap.size+1,0,none⟩),.pointer (some ⟨w.heap.size+1+ 1,0,none⟩)]) (by simp) (by simp[go_sem]) ?_
  refine(catch_command _ _ _ q _ _ HB1.out rfl HA1.out HE1.out (by omega) (by omega) (by omega)).mono ?_
  rintro e u' w2 ⟨rfl,rfl,hk,hx2,ha2,he2⟩
  have HBW:Below w.heap.size w w2:=HB.out.trans (((HT1.out.mono (S':=fun k=>w.heap.size≤ k) (fun k _ e=>by have:=HS.out;omega)).trans (hk.mono (S':=fun k=>w.heap.size≤ k) (fun k _ e=>by have:=HT1.out.size;have:=HS.out;omega))).bel HB.out.size (fun k e=>e))
  have c0:=hx2.cell (j:=0) rfl
  have c1:=hx2.cell (j:=1) rfl
  have c2:=hx2.cell (j:=2) rfl
  have c3:=hx2.cell (j:=3) rfl
  have c4:=hx2.cell (j:=4) rfl
  have c5:=hx2.cell (j:=5) rfl
  have c6:=hx2.cell (j:=6) rfl
  have c7:=hx2.cell (j:=7) rfl
  have c8:=hx2.cell (j:=8) rfl
  have c9:=hx2.cell (j:=9) rfl
  have c10:=hx2.cell (j:=10) rfl
  have c11:=hx2.cell (j:=11) rfl
  have c12:=hx2.cell (j:=12) rfl
  have ca:=ha2.cell (j:=0) rfl
  have ce:=he2.cell (j:=0) rfl
  simp[Leaves,settle,results,Tryz.results60,go_sem,c0,c1,c2,c3,c4,c5,c6,c7,c8,c9,c10,c11,c12,ca,ce]
  have e1:readP zCmd wCmdP bs=(zCmd,q,50):=by
   unfold readP
   rw[if_neg (by omega),HR.out]
   show(if _ then _ else _:WCmd× Nat×Int)=_
   rw[if_pos (by omega)]
  rw[e1]
  exact⟨pzCmd,rfl,memzCmd _ _,HBW⟩
 ·
  obtain⟨w3,hw3⟩:∃w3,w3=(((w1.setCells w.heap.size 0 [.int .i8 v0,.int .i64 v1,.int .i64 v2,.int .i64 v3,.int .i64 v4,.int .i64 v5,.int .i64 v6,.int .i64 v7,.int .i64 v8,.int .i64 v9,.int .i64 v10,.bool v11,.slice p0 v12.length p1]).setCell ⟨w.heap.size+1,0,none⟩ (.int .i64 0)).setCell ⟨w.heap.size+1+ 1,0,none⟩ (.int .i64 0)):=⟨_,rfl⟩
  have hk3:Keep (fun k=>w.heap.size≤ k∧k< W.heap.size) w1 w3:=by rw[hw3];exact(((Keep.refl _ w1).sets ⟨Nat.le_refl _,by have:=HS.out;omega⟩ _ 0).set _ _ (by show w.heap.size≤w.heap.size+ 1∧w.heap.size+ 1<W.heap.size;have:=HS.out;omega)).set _ _ (by show w.heap.size≤w.heap.size+ 1+1∧ w.heap.size+1+ 1<W.heap.size;have:=HS.out;omega)
  have hk:Keep (fun k=>w.heap.size≤ k) w1 w3:=hk3.mono fun k _ e=>e.1
  have hx2:Box w3 w.heap.size [.int .i8 v0,.int .i64 v1,.int .i64 v2,.int .i64 v3,.int .i64 v4,.int .i64 v5,.int .i64 v6,.int .i64 v7,.int .i64 v8,.int .i64 v9,.int .i64 v10,.bool v11,.slice p0 v12.length p1]:=by rw[hw3];exact((HB1.out.whole rfl).far (by show w.heap.size+1≠ _;omega) _).far (by show w.heap.size+1+ 1≠_;omega) _
  have ha2:Box w3 (w.heap.size+1) [.int .i64 0]:=by rw[hw3];exact((HA1.out.block (setCells_keep _ _ _ _ _ (by omega))).set (i:=0) (by simp) _).far (by show w.heap.size+1+ 1≠_;omega) _
  have he2:Box w3 (w.heap.size+1+ 1) [.int .i64 0]:=by rw[hw3];exact((HE1.out.block (setCells_keep _ _ _ _ _ (by omega))).far (p:=⟨w.heap.size+1,0,none⟩) (by show w.heap.size+1≠ _;omega) _).set (i:=0) (by simp) _
  show bodyPostD _ _ _ _ _ (((w1.setCells w.heap.size 0 [.int .i8 v0,.int .i64 v1,.int .i64 v2,.int .i64 v3,.int .i64 v4,.int .i64 v5,.int .i64 v6,.int .i64 v7,.int .i64 v8,.int .i64 v9,.int .i64 v10,.bool v11,.slice p0 v12.length p1]).setCell ⟨w.heap.size+1,0,none⟩ (.int .i64 0)).setCell ⟨w.heap.size+1+ 1,0,none⟩ (.int .i64 0))
  rw[←hw3]
  refine leaves_cons (f:=107) (args:= #[.pointer (some ⟨w.heap.size,0,none⟩),.pointer (some ⟨w.heap.size+1,0,none⟩),.pointer (some ⟨w.heap.size+1+ 1,0,none⟩)]) (by simp) (by simp[go_sem]) ?_
  refine(idle_command _ _ _ _).mono ?_
  rintro e u' w2 ⟨rfl,rfl,rfl⟩
  have HBW:Below w.heap.size w w2:=HB.out.trans (((HT1.out.mono (S':=fun k=>w.heap.size≤ k) (fun k _ e=>by have:=HS.out;omega)).trans hk).bel HB.out.size (fun k e=>e))
  have c0:=hx2.cell (j:=0) rfl
  have c1:=hx2.cell (j:=1) rfl
  have c2:=hx2.cell (j:=2) rfl
  have c3:=hx2.cell (j:=3) rfl
  have c4:=hx2.cell (j:=4) rfl
  have c5:=hx2.cell (j:=5) rfl
  have c6:=hx2.cell (j:=6) rfl
  have c7:=hx2.cell (j:=7) rfl
  have c8:=hx2.cell (j:=8) rfl
  have c9:=hx2.cell (j:=9) rfl
  have c10:=hx2.cell (j:=10) rfl
  have c11:=hx2.cell (j:=11) rfl
  have c12:=hx2.cell (j:=12) rfl
  have ca:=ha2.cell (j:=0) rfl
  have ce:=he2.cell (j:=0) rfl
  simp[Leaves,settle,results,Tryz.results60,go_sem,c0,c1,c2,c3,c4,c5,c6,c7,c8,c9,c10,c11,c12,ca,ce]
  have e1:readP zCmd wCmdP bs=(⟨v0,v1,v2,v3,v4,v5,v6,v7,v8,v9,v10,v11,v12⟩,0,0):=by
   unfold readP
   rw[if_neg (by omega),HR.out]
   show(if _ then _ else _:WCmd× Nat×Int)=_
   rw[if_neg (by omega)]
  rw[e1]
  exact⟨⟨p0,p1⟩,rfl,(HM1.out.keep hk3 (fun k e=>e.2)).mono HB.out.size,HBW⟩
 ·
  obtain⟨cs,hln,hbx⟩:=hb
  refine leaves_cons (f:=107) (args:= #[.pointer (some ⟨w.heap.size,0,none⟩),.pointer (some ⟨w.heap.size+1,0,none⟩),.pointer (some ⟨w.heap.size+1+ 1,0,none⟩)]) (by simp) (by simp[go_sem]) ?_
  refine(catch_command _ _ _ f _ _ hbx hln HA1.out HE1.out (by omega) (by omega) (by omega)).mono ?_
  rintro e u' w2 ⟨rfl,rfl,hk,hx2,ha2,he2⟩
  have HBW:Below w.heap.size w w2:=HB.out.trans (((HT1.out.mono (S':=fun k=>w.heap.size≤ k) (fun k _ e=>by have:=HS.out;omega)).trans (hk.mono (S':=fun k=>w.heap.size≤ k) (fun k _ e=>by have:=HT1.out.size;have:=HS.out;omega))).bel HB.out.size (fun k e=>e))
  have c0:=hx2.cell (j:=0) rfl
  have c1:=hx2.cell (j:=1) rfl
  have c2:=hx2.cell (j:=2) rfl
  have c3:=hx2.cell (j:=3) rfl
  have c4:=hx2.cell (j:=4) rfl
  have c5:=hx2.cell (j:=5) rfl
  have c6:=hx2.cell (j:=6) rfl
  have c7:=hx2.cell (j:=7) rfl
  have c8:=hx2.cell (j:=8) rfl
  have c9:=hx2.cell (j:=9) rfl
  have c10:=hx2.cell (j:=10) rfl
  have c11:=hx2.cell (j:=11) rfl
  have c12:=hx2.cell (j:=12) rfl
  have ca:=ha2.cell (j:=0) rfl
  have ce:=he2.cell (j:=0) rfl
  simp[Leaves,settle,results,Tryz.results60,go_sem,c0,c1,c2,c3,c4,c5,c6,c7,c8,c9,c10,c11,c12,ca,ce]
  have e1:readP zCmd wCmdP bs=(zCmd,f,50):=by
   unfold readP
   rw[if_neg (by omega),HR.out]
  rw[e1]
  exact⟨pzCmd,rfl,memzCmd _ _,HBW⟩
set_option maxHeartbeats 2000000 in
theorem readcommand_any (a:Option Addr) (c:Nat) (bs:List UInt8) (w:World) (hr:RowB w a bs) (hc:bs.length≤ c) (hl:bs.length≤ 1048576):
 Calls Tryz.prog 29 #[.slice a bs.length c] w (RetRdCmd w (readP zCmd wCmdP bs)):=by
 have hB:Below w.heap.size w (w.alloc (.cells #[.int .i8 0,.int .i64 0,.int .i64 0,.int .i64 0,.int .i64 0,.int .i64 0,.int .i64 0,.int .i64 0,.int .i64 0,.int .i64 0,.int .i64 0,.bool false,.slice none 0 0] 54)):=mid_alloc' (Below.refl _ _)
 have HRD:=Lib.hid (read_command a c bs (w.alloc (.cells #[.int .i8 0,.int .i64 0,.int .i64 0,.int .i64 0,.int .i64 0,.int .i64 0,.int .i64 0,.int .i64 0,.int .i64 0,.int .i64 0,.int .i64 0,.bool false,.slice none 0 0] 54)) (hr.below hB) hc hl)
 have HB:=Lib.hid hB
 clear hB hr
 generalize readP zCmd wCmdP bs=r at HRD ⊢
 obtain⟨⟨v0,v1,v2,v3,v4,v5,v6,v7,v8,v9,v10,v11,v12⟩,at',en⟩:=r
 go_enter Tryz.func29,Tryz.ntmps29
 go_wp2_with(go_at_call 60;((with_reducible refine HRD.out.mono ?_);rintro e w1 ⟨⟨p0,p1⟩,rfl,hm,hb1⟩;have HT:=Lib.hid (Box.of_alloc hb1);have HM:=Lib.hid hm;have HLT:=Lib.hid hb1.size;have HB1:=Lib.hid (HB.out.trans (hb1.mono HB.out.size));have y0:=HT.out.cell (j:=0) rfl;have z0:=HT.out.froz (j:=0) (by simp);have y1:=HT.out.cell (j:=1) rfl;have z1:=HT.out.froz (j:=1) (by simp);have y2:=HT.out.cell (j:=2) rfl;have z2:=HT.out.froz (j:=2) (by simp);have y3:=HT.out.cell (j:=3) rfl;have z3:=HT.out.froz (j:=3) (by simp);have y4:=HT.out.cell (j:=4) rfl;have z4:=HT.out.froz (j:=4) (by simp);have y5:=HT.out.cell (j:=5) rfl;have z5:=HT.out.froz (j:=5) (by simp);have y6:=HT.out.cell (j:=6) rfl;have z6:=HT.out.froz (j:=6) (by simp);have y7:=HT.out.cell (j:=7) rfl;have z7:=HT.out.froz (j:=7) (by simp);have y8:=HT.out.cell (j:=8) rfl;have z8:=HT.out.froz (j:=8) (by simp);have y9:=HT.out.cell (j:=9) rfl;have z9:=HT.out.froz (j:=9) (by simp);have y10:=HT.out.cell (j:=10) rfl;have z10:=HT.out.froz (j:=10) (by simp);have y11:=HT.out.cell (j:=11) rfl;have z11:=HT.out.froz (j:=11) (by simp);have y12:=HT.out.cell (j:=12) rfl;have z12:=HT.out.froz (j:=12) (by simp);clear hb1 hm;unfold valCmd))
 obtain⟨w3,hw3⟩:∃w3,w3=w1.setCells w.heap.size 0 [.int .i8 v0,.int .i64 v1,.int .i64 v2,.int .i64 v3,.int .i64 v4,.int .i64 v5,.int .i64 v6,.int .i64 v7,.int .i64 v8,.int .i64 v9,.int .i64 v10,.bool v11,.slice p0 v12.length p1]:=⟨_,rfl⟩
 have hk:Keep (fun k=>w.heap.size= k) w1 w3:=by rw[hw3];exact(Keep.refl _ w1).sets rfl _ 0
 have hx2:Box w3 w.heap.size [.int .i8 v0,.int .i64 v1,.int .i64 v2,.int .i64 v3,.int .i64 v4,.int .i64 v5,.int .i64 v6,.int .i64 v7,.int .i64 v8,.int .i64 v9,.int .i64 v10,.bool v11,.slice p0 v12.length p1]:=by rw[hw3];exact HT.out.whole rfl
 show bodyPost _ _ _ _ _ (w1.setCells w.heap.size 0 [.int .i8 v0,.int .i64 v1,.int .i64 v2,.int .i64 v3,.int .i64 v4,.int .i64 v5,.int .i64 v6,.int .i64 v7,.int .i64 v8,.int .i64 v9,.int .i64 v10,.bool v11,.slice p0 v12.length p1])
 rw[←hw3]
 have c0:=hx2.cell (j:=0) rfl
 have c1:=hx2.cell (j:=1) rfl
 have c2:=hx2.cell (j:=2) rfl
 have c3:=hx2.cell (j:=3) rfl
 have c4:=hx2.cell (j:=4) rfl
 have c5:=hx2.cell (j:=5) rfl
 have c6:=hx2.cell (j:=6) rfl
 have c7:=hx2.cell (j:=7) rfl
 have c8:=hx2.cell (j:=8) rfl
 have c9:=hx2.cell (j:=9) rfl
 have c10:=hx2.cell (j:=10) rfl
 have c11:=hx2.cell (j:=11) rfl
 have c12:=hx2.cell (j:=12) rfl
 refine bodyPost_ret (v:= .tuple #[.agg #[.int .i8 v0,.int .i64 v1,.int .i64 v2,.int .i64 v3,.int .i64 v4,.int .i64 v5,.int .i64 v6,.int .i64 v7,.int .i64 v8,.int .i64 v9,.int .i64 v10,.bool v11,.slice p0 v12.length p1],.int .i64 at',.int .i64 en]) (by simp[results,Tryz.results29,go_sem,c0,c1,c2,c3,c4,c5,c6,c7,c8,c9,c10,c11,c12]) rfl ⟨⟨p0,p1⟩,rfl,?_,HB1.out.trans ((hk.mono (S':=fun k=>w.heap.size≤ k) (fun k _ e=>by omega)).bel HB1.out.size (fun k e=>e))⟩
 exact(HM.out.keep hk (fun k e=>by subst e;simp)).mono HB.out.size
set_option maxHeartbeats 2000000 in
theorem written_command (x:WCmd) (p:PCmd) (w:World) (hs:LowCmd w.heap.size w x p) (hg:OkCmd x):
 Calls Tryz.prog 75 #[valCmd x p,.func (.func 61) #[] #[]] w (RetBC w (encWCmd x)):=by
 obtain⟨v0,v1,v2,v3,v4,v5,v6,v7,v8,v9,v10,v11,v12⟩:=x
 obtain⟨p0,p1⟩:=p
 obtain⟨W,hW⟩:∃W,W=(w.alloc (.cells #[.int .i8 v0,.int .i64 v1,.int .i64 v2,.int .i64 v3,.int .i64 v4,.int .i64 v5,.int .i64 v6,.int .i64 v7,.int .i64 v8,.int .i64 v9,.int .i64 v10,.bool v11,.slice p0 v12.length p1] 54)).alloc (.cells #[.slice none 0 0,.int .i64 0,.bool false] 141):=⟨_,rfl⟩
 have hbx:Box W w.heap.size [.int .i8 v0,.int .i64 v1,.int .i64 v2,.int .i64 v3,.int .i64 v4,.int .i64 v5,.int .i64 v6,.int .i64 v7,.int .i64 v8,.int .i64 v9,.int .i64 v10,.bool v11,.slice p0 v12.length p1]:=by rw[hW];exact Box.of_alloc (mid_alloc' (Below.refl _ _))
 have hbc:Box W (w.heap.size+1) [.slice none ([]:List UInt8).length 0,.int .i64 0,.bool false]:=by rw[hW];exact Box.of_alloc1 (Below.refl _ _)
 have hcw:Cw W (w.heap.size+2) (w.heap.size+1) none 0 []:=⟨hbc,Can.nil _ _ _ _,(fun b o s h=>by cases h),by omega,(fun b o s h=>by cases h)⟩
 have hsz:w.heap.size+ 2≤W.heap.size:= by rw[hW];simp
 have hbW:Below w.heap.size w W:=by rw[hW];exact mid_alloc' (mid_alloc' (Below.refl _ _))
 have HA:=Lib.hid (command_w (w.heap.size+2) (w.heap.size+1) w.heap.size 0 none [] ⟨v0,v1,v2,v3,v4,v5,v6,v7,v8,v9,v10,v11,v12⟩ (p0,p1) W hcw hsz hbx (hs.up (by omega) hbW) hg (by omega) (fun o s h=>by cases h) (by simp))
 have HBW:=Lib.hid hbW
 clear hs hg hbx hbc hcw hsz
 rw[List.nil_append]at HA
 generalize encWCmd _=L at HA ⊢
 unfold valCmd
 simp only
 rw[hW]at HA
 have HW:=Lib.hid hW
 clear hW hbW
 go_enter Tryz.func75,Tryz.ntmps75
 go_wp2_with(go_at_call 61;((with_reducible refine HA.out.mono ?_);rintro en w1 ⟨a1,c1,rfl,hcw1,hgr1⟩;have HC1:=Lib.hid hcw1;have HG1:=Lib.hid hgr1;have k0:=hcw1.box.cell (j:=0) rfl;clear hcw1 hgr1))
 go_ret
 refine⟨a1,c1,rfl,HC1.out.can.row,?_,HC1.out.can.le⟩
 have hg:=HG1.out
 rw[←HW.out]at hg
 exact hg.bel HBW.out (by omega)
theorem command_bytes (x:WCmd) (p:PCmd) (w:World) (hs:LowCmd w.heap.size w x p) (hg:OkCmd x):
 Calls Tryz.prog 38 #[valCmd x p] w (RetBC w (encWCmd x)):=by
 obtain⟨v0,v1,v2,v3,v4,v5,v6,v7,v8,v9,v10,v11,v12⟩:=x
 obtain⟨p0,p1⟩:=p
 have hba:Below w.heap.size w (w.alloc (.cells #[.int .i8 v0,.int .i64 v1,.int .i64 v2,.int .i64 v3,.int .i64 v4,.int .i64 v5,.int .i64 v6,.int .i64 v7,.int .i64 v8,.int .i64 v9,.int .i64 v10,.bool v11,.slice p0 v12.length p1] 54)):=(Below.refl _ _).alloc (Nat.le_refl _) _
 have HB:=Lib.hid hba
 have HWR:=Lib.hid (written_command ⟨v0,v1,v2,v3,v4,v5,v6,v7,v8,v9,v10,v11,v12⟩ (p0,p1) (w.alloc (.cells #[.int .i8 v0,.int .i64 v1,.int .i64 v2,.int .i64 v3,.int .i64 v4,.int .i64 v5,.int .i64 v6,.int .i64 v7,.int .i64 v8,.int .i64 v9,.int .i64 v10,.bool v11,.slice p0 v12.length p1] 54)) (hs.up hba.size hba) hg)
 clear hba hs hg
 generalize encWCmd _=L at HWR ⊢
 unfold valCmd at HWR ⊢
 simp only at HWR ⊢
 go_enter Tryz.func38,Tryz.ntmps38
 go_wp2_with(go_at_call 75;((with_reducible refine HWR.out.mono ?_);rintro en w1 ⟨a1,c1,rfl,hr1,hb1,hc1⟩;have HLE:=Lib.hid hc1;clear hc1;have HR1:=Lib.hid hr1;have HB1:=Lib.hid (HB.out.trans (hb1.mono HB.out.size));clear hr1 hb1))
 go_ret
 exact⟨a1,c1,rfl,HR1.out,HB1.out,HLE.out⟩
end Go.Proofs.YtfdmhpohfjbpfaaGreat
