import Derived.Test.YtoeofkcpclfnhaaGreatSr29
set_option linter.unusedVariables false
set_option linter.unusedSimpArgs false
namespace Go.Proofs.YtoeofkcpclfnhaaGreat
open Go.ChangeShapes Go.WideShapes Go.ChangeAt Go.RowKit
set_option maxRecDepth 100000
open Raf (RN NetOk updN)
set_option maxHeartbeats 16000000
theorem putEF_self(n:RN)(y:WEnt):(Raf.putEF n y).self=n.self:= by unfold Raf.putEF;split<;>rfl
theorem leadF_self(n:RN)(now:Int):(Raf.leadF n now).1.self=n.self:= by
 unfold Raf.leadF;show(Raf.countF _).self=_
 rw[(Raf.countF_is _).1];show(Raf.putEF _ _).self=_
 rw[putEF_self]
theorem hearG_self(n:RN)(m:WMsg)(now:Int):(hearG n m now).1.self=n.self:= by
 unfold hearG
 split
 ·rfl
 ·have hr:=(rise_le n m.term).2.2;generalize Raf.riseF n m.term=n2 at hr ⊢;rw[←hr]
  split
  ·unfold voteAskF;show RN.self (if _ then _ else _)=_
   split
   ·exact(again_keeps _ _).2.2.2.2.1
   ·rfl
  ·split
   ·unfold voteTellF
    split
    ·show(if _ then _ else _:RN× List WMsg).1.self=_
     split
     ·exact leadF_self _ _
     ·rfl
    ·rfl
   ·split
    ·unfold appendAskF
     split
     ·rfl
     ·have ha:(Raf.again {n2 with role:=0,known:=m.src} now).self=n2.self:= (again_keeps _ _).2.2.2.2.1;show(if _ then _ else _:RN× List WMsg).1.self=_
      split
      ·exact ha
      ·split
       ·exact ha
       ·exact ha
    ·unfold appTellF
     split
     ·exact(Raf.countF_is _).1
     ·rfl
theorem propG_self{n:RN}{y:WEnt}{r:RN× List WMsg}(hr:propG n y=some r):r.1.self= n.self:=by
 unfold propG at hr
 split at hr
 ·cases hr
 ·split at hr
  ·cases hr
  ·split at hr
   ·cases hr
   ·split at hr
    ·cases hr
    ·cases hr
     exact(Raf.countF_is _).1
theorem hear_ok{N NC:Nt}{i k:Nat}(h:NetInv N i)(hi:i< 900)(h1:1≤ k)(h3:k≤ 3)(hx:NC.x= N.x∧NC.led= N.led∧NC.done= N.done)(ha:∀q∈ NC.air.map Ms.m,q∈N.air.map Ms.m){m:WMsg}(hm:m∈ N.air.map Ms.m)(hd:m.dst= (k:Int))(now:Int):
 NetOk (updN (fun j=>(NC.x j).n) k (Raf.endF (hearG (NC.x k).n m now).1)) (NC.air.map Ms.m++(hearG (NC.x k).n m now).2) NC.led (ents NC.done) (i+1) (i+1):=by
 rw[hx.1,hx.2.1,hx.2.2];have hs:=self_of h h1 h3;obtain⟨a1,a2,a3,a4,a5,-⟩:=h.ok.air_bounds hm;have he:=hear_eq (n:=(N.x k).n) (m:=m) now a1 a2 a3 a4 (by rw[hd,hs]) a5;have h5:=h.ok.step (n:=(Raf.hearF (N.x k).n m now).1) (ms:=(Raf.hearF (N.x k).n m now).2) h1 h3 (Nat.le_refl i) (by rw[he,(end_keeps _).2.1,hearG_self];exact hs) (fun x ho hr hma=>Raf.to_hearF ho hr hs h1 o_ o_ (hma m hm).1 (hma m hm).2 now);rw[he]at h5;exact h5.mono (Nat.le_succ i) n_ (fun q hq=>(List.mem_append.1 hq).elim (fun h6=>List.mem_append_left _ (ha q h6)) (fun h6=>List.mem_append_right _ h6))
theorem prop_ok{N:Nt}{i k:Nat}(h:NetInv N i)(h1:1≤ k)(h3:k≤ 3){y:WEnt}{r:RN× List WMsg}(hr:propG (N.x k).n y=some r):
 NetOk (updN (fun j=>(N.x j).n) k (Raf.endF r.1)) (N.air.map Ms.m++r.2) N.led (ents N.done) (i+1) (i+1):=by
 have hs:=self_of h h1 h3;have he:Raf.propF (N.x k).n y=some (Raf.endF r.1,r.2):=by rw[prop_eq,hr];rfl
 have h5:=h.ok.step (n:=Raf.endF r.1) (ms:=r.2) h1 h3 (Nat.le_refl i) (by rw[(end_keeps _).2.1,propG_self hr];exact hs) (fun x ho hr2 _=>Raf.to_propF ho hr2 hs h1 o_ he);exact h5.mono (Nat.le_succ i) n_ (fun q hq=>hq)
theorem new_ok{N:Nt}{i k:Nat}(h:NetInv N i)(h1:1≤ k)(h3:k≤ 3)(hk:Kept N k)(hst:Stat (N.x k).n (i+8))(now:Int):
 NetOk (updN (fun j=>(N.x j).n) k (Raf.newF k 7 1000 250 [5,7] (N.hT k) (N.hV k) (N.hB k) (ents (N.rs k)) now)) (N.air.map Ms.m) N.led (ents N.done) i i:=by
 have hs:=self_of h h1 h3;obtain⟨e1,e2,e3,e4⟩:=hk;have e:Raf.newF k 7 1000 250 [5,7] (N.hT k) (N.hV k) (N.hB k) (ents (N.rs k)) now=Raf.newF (N.x k).n.self (N.x k).n.base (N.x k).n.elect (N.x k).n.pulse (N.x k).n.draws (N.x k).n.hT (N.x k).n.hV (N.x k).n.hB (N.x k).n.es now:=by
  rw[e1,e2,e3,e4,hs,hst.base,hst.elect,hst.pulse,hst.draws]
 rw[e];have h5:=h.ok.step (n:=Raf.newF (N.x k).n.self (N.x k).n.base (N.x k).n.elect (N.x k).n.pulse (N.x k).n.draws (N.x k).n.hT (N.x k).n.hV (N.x k).n.hB (N.x k).n.es now) (ms:=[]) h1 h3 (Nat.le_refl i) ((Raf.again_is _ _).1.trans hs) (fun x ho hr _=>Raf.to_new ho hr now);rw[List.append_nil]at h5;exact h5
theorem RetEf.kept{S T:Nat→ Prop}{w w':World}{g:Nat}{n1:RN}{ms:List WMsg}{en:Ending}(h:RetEf S T w g n1 ms en w'):Keep T w w':=by
 obtain⟨T',x',e',ef,-,hst,-⟩:=h;exact hst.keep
end Go.Proofs.YtoeofkcpclfnhaaGreat
namespace Go.Proofs.YtoeofkcpclfnhaaGreat
open Go.ChangeShapes Go.WideShapes Go.ChangeAt Go.RowKit
set_option maxRecDepth 100000
set_option maxHeartbeats 16000000
theorem tq75 {P:Prop}(h:P:=by
 clear hd;go_wp2_with fail;go_ret
 exact⟨rfl,NC,HXC.out,HPC.out,HLC2.out,HIC.mono (Nat.le_succ i),by have:=HAL2.out;omega,HBC.out⟩):P:=h
theorem act_hear{w:World}{X Bs i:Nat}{N:Nt}(hx:Bex w X (cellsNt N))(hp:NtP w X N)(hB:Bs≤ w.heap.size)(hlo:∀j,N.mut X j→Bs≤ j)(hinv:NetInv N i)(hi:i< 400)(hal:N.air.length≤ 300)(K nw:Int)(set:UInt8)(hal0:0< N.air.length):
 Calls Tryz.prog 7 #[.pointer (some ⟨X,0,none⟩),.agg #[.int .i64 1,.int .i64 K,.int .i64 nw,Go.Proofs.YtoeofkcpclfnhaaGreat.B set]] w (RetAc w Bs X i N):=by
 have HBB:Hid (Below w.heap.size w (w.alloc (.cells #[.int .i64 1,.int .i64 K,.int .i64 nw,Go.Proofs.YtoeofkcpclfnhaaGreat.B set] 50))):=mid_alloc' b_;have HA0:Hid (Bex (w.alloc (.cells #[.int .i64 1,.int .i64 K,.int .i64 nw,Go.Proofs.YtoeofkcpclfnhaaGreat.B set] 50)) w.heap.size [.int .i64 1,.int .i64 K,.int .i64 nw,Go.Proofs.YtoeofkcpclfnhaaGreat.B set]):=Bex.new w [.int .i64 1,.int .i64 K,.int .i64 nw,Go.Proofs.YtoeofkcpclfnhaaGreat.B set] 50;have HX0:=h_ (hx.next HBB.out);have HP0:=h_ (hp.next HBB.out);have HLO:=h_ hlo;have HBS:=h_ hB;have HIV:=h_ hinv;have HIL:=h_ (And.intro hi hal);have HXW:=h_ hx.lt;have e1:=i64_and1023 K;obtain⟨r,hr,hr0,hr1⟩:∃r,K%1024= r∧0≤ r∧r< 1024:=⟨_,rfl,by omega,by omega⟩;rw[hr]at e1;obtain⟨k,hk,hk1,hk3⟩:∃k: Nat,1+r% 3=(k:Int)∧1≤ k∧k≤ 3:=⟨(1+r% 3).toNat,by omega,by omega,by omega⟩;have HK:=h_ (And.intro hk1 hk3);have e2:wrap64 (1+r.tmod 3)=(k:Int):=by rw[Int.tmod_eq_emod_of_nonneg hr0,IntWalk.wrap64_in _ o_];exact hk
 obtain⟨L,hL⟩:∃L,N.air.length=L:= ⟨_,rfl⟩;have HL:=h_ hL;have HX32:Hid (∀w',Bex w' X (cellsNt N)→w'.cell? ⟨X,32,none⟩=some (.slice N.aa L N.ac)):=fun w' h=>by rw[←HL.out];exact(h.cell' 32).trans rfl
 have ka0:=HA0.box.cell (j:=0) rfl;have ka1:=HA0.box.cell (j:=1) rfl;have ka2:=HA0.box.cell (j:=2) rfl;have ka3:=HA0.box.cell (j:=3) rfl;have kx:=HX32.out _ HX0.out;have hL0:0< L:=by rw[←hL];exact hal0
 have HL0:=h_ hL0;clear hL0 hal0 hx hp hB hlo hinv hi hal hr hr0 hr1 hk hk1 hk3 hL;go_enter Tryz.func7,Tryz.ntmps7;go_upto_if 27 with fail;rw[e2];go_cut [6]from 28 to 48 (fun v wx=>∃m: Int,v= .int .i64 m∧Hid (0<L→ 0≤m∧ m<L)∧Hid (Below (w.alloc (.cells #[.int .i64 1,.int .i64 K,.int .i64 nw,Go.Proofs.YtoeofkcpclfnhaaGreat.B set] 50)).heap.size (w.alloc (.cells #[.int .i64 1,.int .i64 K,.int .i64 nw,Go.Proofs.YtoeofkcpclfnhaaGreat.B set] 50)) wx))
 case first=>as_aux_lemma=>
  rcases Nat.eq_zero_or_pos L with h0|h0
  ·exact absurd h0 (Nat.ne_of_gt HL0.out)
  ·obtain⟨p1,p2,p3,p4⟩:=pick_lt K h0;have HPK:=h_ (And.intro p1 p2);have d0:decide (0<L)=true:= decide_eq_true h0;have d1:decide ((0:Int)<(L:Int))=true:= decide_eq_true o_;have d2:¬(L:Int)=0:= o_;have d3:¬L= 0:=o_;have HLB:Hid (L≤300):=by show _≤_;rw[←HL.out];exact HIL.2
   have f1:IntKind.i64.wrap (Int.tmod K L+L)=Int.tmod K L+L:= by have:=HLB.out;exact IntWalk.i64_in _ o_
   clear p1 p2 p3 p4 h0;go_upto_region 4 with fail;refine wrq (fun l w'=>(w'.cell? ⟨w.heap.size,1,none⟩=some (.int .i64 K)∧w'.cell? ⟨X,32,none⟩=some (.slice N.aa L N.ac))) ?_;obtain⟨w4,hwd⟩:∃y,y=World.drew (w.alloc (.cells #[.int .i64 1,.int .i64 K,.int .i64 nw,Go.Proofs.YtoeofkcpclfnhaaGreat.B set] 50)):=⟨_,rfl⟩;rw[←hwd];have hb:Below (w.alloc (.cells #[.int .i64 1,.int .i64 K,.int .i64 nw,Go.Proofs.YtoeofkcpclfnhaaGreat.B set] 50)).heap.size (w.alloc (.cells #[.int .i64 1,.int .i64 K,.int .i64 nw,Go.Proofs.YtoeofkcpclfnhaaGreat.B set] 50)) w4:=by rw[hwd];exact b_.drew
   clear hwd;have HB4:=h_ hb;clear hb;refine toS ⟨(HA0.next HB4.out).box.cell (j:=1) rfl,HX32.out _ (HX0.next HB4.out)⟩ ?_;refine tkq 0 ?_;refine tkq 1 ?_;refine tkq 2 ?_;refine tkq 3 ?_;refine tkq 4 ?_;refine tkq 5 ?_;refine tkq 6 ?_;refine tkq 7 ?_;refine tkq 8 ?_;refine tkq 9 ?_;refine tkq 10 ?_;refine tkq 11 ?_;refine tkq 12 ?_;refine tkq 13 ?_;refine tkq 14 ?_;refine tkq 15 ?_;refine tkq 16 ?_;refine tkq 17 ?_;refine tkq 18 ?_;refine tkq 19 ?_;refine tkq 20 ?_;refine sdq ?_;go_wp2_with fail;go_meet;exact⟨_,rfl,(fun _=>HPK.out),HB4⟩
 obtain⟨mi,rfl,HM,HBx⟩:=hcut;obtain⟨m,rfl,hm⟩:∃m: Nat,mi=(m:Int)∧m< L:=by obtain⟨p1,p2⟩:=HM.out HL0.out;exact⟨mi.toNat,by omega,by omega⟩
 have HML:Hid (m<L):=hm;have hmn:m< N.air.length:=by rw[HL.out];exact hm
 have HBw:=h_ (HBB.trans (HBx.mono HBB.size));have HX:=h_ (HX0.next HBx.out);have HP:=h_ (HP0.next HBx.out);have HA:=h_ (HA0.next HBx.out);have HBc:Hid (Below Bs w wc):=HBw.mono HBS.out;have ka0:=HA.box.cell (j:=0) rfl;have HBS2:Hid (Bs≤wc.heap.size):=Nat.le_trans HBS.out HBw.size;obtain⟨ba,oa,haa,hma⟩:=msgAt HP.air.row hmn;have HY0:Hid (N.air[m]∈N.air):=List.getElem_mem hmn;obtain⟨y,hy⟩:∃y,N.air[m]=y:= ⟨_,rfl⟩;rw[hy]at hma HY0;have HMA:=h_ hma;have HAA:=h_ haa;have HX33:Hid (∀w',Bex w' X (cellsNt N)→w'.cell? ⟨X,32,none⟩=some (.slice (some ⟨ba,oa,none⟩) L N.ac)):=fun w' h=>by rw[←HAA.out];exact HX32.out w' h
 have kx:=HX33.out _ HX.out;have l1:decide (0<L)=true:= decide_eq_true HL0.out;have l2:decide ((0:Int)<(L:Int))=true:= decide_eq_true (by have:=HL0.out;omega);have l3:(m:Int)<(L:Int):=by have:=HML.out;omega
 have l4:(0:Int)≤(m:Int):=o_;obtain⟨v0,v1,v2,v3,v4,v5,v6,v7,v8,v9,v10,v11,v12,v13⟩:=hma;clear haa hy hm hmn;go_upto_region 14 with(first|((with_reducible refine at_store 59 (.tmp 7) (.tmp 107) ?_);refine wpList_store_bex layMs rfl (.tmp 7) (.tmp 107) rfl wc.heap.size y _ rfl rfl (Bex.new wc _ _) rfl ?_;intro w9 hx hw;have hb9:Below wc.heap.size wc w9:=((Below.refl wc.heap.size wc).alloc n_ _).trans (hw.below _ n_);have HY9:=h_ hx;have HX9:=h_ (HX.next hb9);have HP9:=h_ (HP.next hb9);have HB9:=h_ (HBc.trans (hb9.mono HBS2.out));have HA9:=h_ (HA.next hb9);have ka9:=HA9.box.cell (j:=0) rfl;clear hx hw hb9 v0 v1 v2 v3 v4 v5 v6 v7 v8 v9 v10 v11 v12 v13));obtain⟨gy,hgy⟩:∃q,q=wc.heap.size:= ⟨_,rfl⟩;have HGX:Hid (X<gy):=by show _<_;have:=HX.lt;omega
 have HGA:Hid (∀j,blkOf N.aa=some j→j≠ gy):=fun j h5=>by have:=HP.air.lt j h5;omega
 have HGG:Hid (∀j,1≤j→ j≤3→ N.g j≠gy):=fun j j1 j3=>by have:=(HP.nd j j1 j3).lt;omega
 rw[←hgy]at HY9 ⊢;have HNL:Hid (L≤300):=by show _≤_;rw[←HL.out];exact HIL.2
 have HLC:Hid (L≤N.ac):=by show _≤_;rw[←HL.out];exact HP.air.2.1
 have kx9:=HX33.out _ HX9.out;have p1:m≤ N.ac:=by have:=HLC.out;have:=HML.out;omega
 have p2:(m:Int)≤(N.ac:Int):=o_;have p3:¬N.ac= 0:=by have:=HLC.out;have:=HML.out;omega
 have p4:IntKind.i64.wrap (m:Int)=(m:Int):=by have:=HML.out;have:=HNL.out;exact IntWalk.i64_in _ o_
 have HR1:Hid (Row w9 (some ⟨ba,oa,none⟩) ((N.air.take m).flatMap cellsMs)):=by have h5:=HP9.air.row.take (m*14);rw[flatMap_take (size:=14) (fun _=>rfl),HAA.out]at h5;exact h5
 have HL1:Hid ((N.air.take m).length=m):=by show _=_;have h5:=HML.out;have h6:=HL.out;rw[List.length_take];omega
 have HC1:Hid (((N.air.take m).flatMap cellsMs).length=m* 14):=by have h5:=layMs.length (N.air.take m);rw[HL1.out]at h5;exact h5
 clear hgy kx ka0 HMA;go_upto_region 15 with(first|(at_builtin;refine wpList_ownO el_msg rfl (.tmp 121) (.tmp 127) rfl none 0 0 [] rfl (OwnO.nil _ _ _) (some ⟨ba,oa,none⟩) m N.ac ((N.air.take m).flatMap cellsMs) rfl HC1.out HR1.out (layMs.ones _) (by have h5:=HML.out;have h6:=HNL.out;omega) ?_;intro b1 c1 w14 ho hg hn;rw[Nat.zero_add]at ho;have HO14:Hid (OwnO w14 59 14 b1 m c1 ((N.air.take m).flatMap cellsMs)):=ho;have hb:Below w9.heap.size w9 w14:=(Keep.grown (T:=fun i=>blkOf (none:Option Addr)=some i) hg (fun j h5=>h5)).below n_ (fun i h5=>by cases h5);have HD14:Hid (∀j,blkOf b1=some j→w9.heap.size≤ j):=(fun j h5=>(hn j h5).elim (fun h6=>by cases h6) id);have HX14:=h_ (HX9.next hb);have HP14:=h_ (HP9.next hb);have HY14:=h_ (HY9.next hb);have HA14:=h_ (HA9.next hb);have HB14:=h_ (HB9.trans (hb.mono (Nat.le_trans HBS.out HB9.size)));have HW14:=h_ hb;clear ho hg hn hb kx9));have kx14:=HX33.out _ HX14.out;have q1:m+ 1≤L:= by have:=HML.out;omega
 have q2:(m:Int)+1≤ (L:Int):=o_;have q3:¬(m:Int)+1< 0:=o_;have q4:IntKind.i64.wrap ((m:Int)+1)=(m:Int)+1:= by have:=HML.out;have:=HNL.out;exact IntWalk.i64_in _ o_
 obtain⟨ad,had⟩:∃ad,(if N.ac=m+ 1 then some (⟨ba,oa,none⟩:Addr)else some ⟨ba,oa+(m+1)*14,none⟩)=ad:= ⟨_,rfl⟩;clear p1 p2 p3;have HR2:Hid (Row w14 ad ((N.air.drop (m+1)).flatMap cellsMs)):=by
  show Row _ _ _
  rw[←had]
  split
  ·rename_i h5
   have h6:N.air.drop (m+1)=[]:=List.drop_eq_nil_of_le (by have h7:=HL.out;have h8:=HLC.out;omega);rw[h6];exact .inl rfl
  ·have h5:=HP14.air.row;rw[HAA.out]at h5;have h6:=h5.drop ((m+1)*14);rw[flatMap_drop (size:=14) (fun _=>rfl)]at h6;exact h6
 have HL2:Hid ((N.air.drop (m+1)).length=L- (m+1)):=by show _=_;have h6:=HL.out;rw[List.length_drop];omega
 have HC2:Hid (((N.air.drop (m+1)).flatMap cellsMs).length=(L-(m+1))*14):=by have h5:=layMs.length (N.air.drop (m+1));rw[HL2.out]at h5;exact h5
 have HB1:Hid (∀j,blkOf b1=some j→w9.heap.size≤ j):=HD14;go_upto_region 16 with(first|(at_builtin;refine wpList_ownO el_msg rfl (.tmp 130) (.tmp 137) rfl b1 m c1 ((N.air.take m).flatMap cellsMs) rfl HO14.out ad (L-(m+1)) (N.ac-(m+1)) ((N.air.drop (m+1)).flatMap cellsMs) rfl HC2.out HR2.out (layMs.ones _) (by have h5:=HML.out;have h6:=HNL.out;omega) ?_;intro a2 c2 w15 ho hg hn;have HO15:=h_ ho;have HG15:=h_ hg;have HN15:=h_ hn;have HX15:=h_ (HX14.block (hg.block X HX14.lt (fun h5=>by have:=HB1.out _ h5.symm;have:=HX9.lt;omega)));clear ho hg hn kx14 had q1 q2 q3 q4)|((with_reducible refine at_store 35 (.tmp 140) (.tmp 138) ?_);refine wpList_field_bex rfl (.tmp 140) (.tmp 138) rfl size1_nd.2.2.2.1 X 32 _ (.slice a2 (m+(L-(m+1))) c2) rfl rfl rfl rfl HX15.out (show 32<35 by decide) ?_;intro w16 hx hw;have HX16:=h_ hx;have HW16:=h_ hw;clear hx hw));have hlc:(N.air.take m++N.air.drop (m+1)).length=m+ (L-(m+1)):=by rw[List.length_append,HL1.out,HL2.out]
 have hlsub:∀m5∈ N.air.take m++N.air.drop (m+1),m5∈N.air:= fun m5 h5=>(List.mem_append.1 h5).elim (fun h6=>List.mem_of_mem_take h6) (fun h6=>List.mem_of_mem_drop h6)
 have hoc:OwnO w15 59 14 a2 (N.air.take m++N.air.drop (m+1)).length c2 ((N.air.take m++N.air.drop (m+1)).flatMap cellsMs):=by rw[hlc,←air_cut];exact HO15.out
 have hxc:Bex w16 X (cellsNt ({N with air:=N.air.take m++N.air.drop (m+1),aa:=a2,ac:=c2}:Nt)):=by have h5:=HX16.out;rw[←hlc]at h5;exact h5
 obtain⟨hpc,hloc,hbc,hmc⟩:=HP9.cut HX9.lt (Nat.le_trans HBS.out HB9.size) HLO.out HW14.out HG15.out HB1.out HN15.out hlsub hoc HW16.out HY0.out;have hic:=HIV.airU hlsub a2 c2;have HALC:Hid ((N.air.take m++N.air.drop (m+1)).length+1≤ N.air.length):=by show _+1≤ _;rw[hlc,HL.out];have:=HML.out;omega
 have HB15:Hid (Below w9.heap.size w9 w15):=HW14.trans ((Keep.grown (T:=fun i=>blkOf b1=some i) HG15.out (fun j h5=>h5)).below HW14.size HB1.out);have HYC:Hid (Bex w16 gy (cellsMs y)):=((HY9.next HB15.out).wrote HW16.out (by have:=HGX.out;omega));have HAC:=h_ ((HA9.next HB15.out).wrote HW16.out (by have:=HXW.out;omega));have HFC:=h_ (HIV.few _ HY0.out);have HABC:=h_ (HIV.ok.air_bounds (List.mem_map_of_mem (f:=Ms.m) HY0.out));have HOKM:=h_ (List.mem_map_of_mem (f:=Ms.m) HY0.out);obtain⟨NC,hNC⟩:∃NC,NC=({N with air:=N.air.take m++N.air.drop (m+1),aa:=a2,ac:=c2}:Nt):=⟨_,rfl⟩;have HNX:Hid (NC.x=N.x∧ NC.led=N.led∧ NC.done=N.done):=by show _∧_∧ _;rw[hNC];exact⟨rfl,rfl,rfl⟩
 have HNG:Hid (NC.g=N.g):=by show _=_;rw[hNC]
 rw[←hNC]at hxc hpc hloc hmc hic;have HAL2:Hid (NC.air.length+1≤ N.air.length):=by show _+1≤ _;rw[hNC];exact HALC.out
 have HASUB:Hid (∀q∈ NC.air.map Ms.m,q∈N.air.map Ms.m):=fun q h5=>by
  rw[hNC]at h5;obtain⟨q2,h6,rfl⟩:=List.mem_map.1 h5;exact List.mem_map_of_mem (f:=Ms.m) (hlsub q2 h6)
 have HXC:=h_ hxc;have HPC:=h_ hpc;have HLC2:=h_ hloc;have HIC:=h_ hic;have HMC:=h_ hmc;have HBC:Hid (Below Bs w w16):=HB9.trans hbc;have kac:=HAC.box.cell (j:=0) rfl;clear hlc hlsub hoc hxc hpc hloc hbc hmc hic hNC ka9 HX15 HX16 HW16 HN15 HG15 HO15 HR1 HR2 HC1 HC2 HL1 HL2 HALC;by_cases hd:1≤ y.m.dst∧y.m.dst≤ 3
 ·obtain⟨kd,hkd⟩:∃kd: Nat,y.m.dst=(kd:Int):=⟨y.m.dst.toNat,by omega⟩;have k1:1≤ kd:=o_;have k3:kd≤ 3:=o_;have HKD:=h_ (And.intro k1 k3);have HKE:Hid (y.m.dst=(kd:Int)):=hkd;have d1:decide (1≤(kd:Int))=true:= decide_eq_true o_;have d2:decide (1≤kd)=true:= decide_eq_true k1;have d3:decide (0<kd)=true:= decide_eq_true k1;have d4:decide ((kd:Int)≤3)=true:= decide_eq_true o_;have d5:decide (kd≤3)=true:= decide_eq_true k3;have kyc:w16.cell? ⟨gy,2,none⟩=some (.int .i64 (kd:Int)):=by rw[←hkd];exact HYC.box.cell (j:=2) rfl
  clear hd hkd k1 k3;go_upto_region 17 with fail;clear d1 d2 d3 d4 d5 kyc kac;obtain⟨hgd,hsf,-⟩:=gd_of HIC.ok (by have:=HIL.1;omega) HKD.1 HKD.2 (HIC.st kd HKD.1 HKD.2) (by have:=HIL.1;omega);have hdk:=HKE.out;have hke:=hear_ok HIV.out (by have:=HIL.1;omega) HKD.1 HKD.2 HNX.out HASUB.out HOKM.out hdk (NC.now kd);have hmb:=made_bd hke (by have:=HIL.1;omega) HKD.1 HKD.2;have hbd:=HIC.ok.bounds HKD.1 HKD.2;(try simp only at hbd);have hno:=HIC.now kd HKD.1 HKD.2;have hab:=HABC.out;have hil:=HIL.1;have hhl:=HIL.2;have hcl:=HAL2.out;have hmel:y.es.length≤ 1000000:=by have h5:=HFC.out;have h6:=congrArg List.length HMC.eq;rw[ents_len]at h6;omega
  have i1:kd< 4:=by have:=HKD.2;omega
  have i2:(kd:Int)<4:= o_;have i3:(0:Int)≤(kd:Int):=o_;have HGY:Hid (NC.g kd≠gy):=by intro h5;have h6:=HYC.lt;exact(HGG kd HKD.1 HKD.2) (by rw[←h5];exact(congrFun HNG.out kd).symm)
  have HHE:Hid (∀w',Below w16.heap.size w16 w'→Calls Tryz.prog 10 #[.pointer (some ⟨NC.g kd,0,none⟩),.agg #[.int .i8 y.m.kind,.int .i64 y.m.src,.int .i64 (kd:Int),.int .i64 y.m.term,.int .i64 y.m.index,.int .i64 y.m.last,.int .i64 y.m.commit,.bool y.m.ok,.slice y.ea y.es.length y.ec,.int .i64 0,.int .i64 0,.int .u8 0,.slice none 0 0,.slice none 0 0],.int .i64 (NC.now kd)] w' (RetEf (NC.mut X) (fun j=>j= NC.g kd) w' (NC.g kd) (hearG (NC.x kd).n y.m (NC.now kd)).1 (hearG (NC.x kd).n y.m (NC.now kd)).2)):=fun w' hb=>by
   have h5:Calls Tryz.prog 10 #[.pointer (some ⟨NC.g kd,0,none⟩),.agg #[.int .i8 y.m.kind,.int .i64 y.m.src,.int .i64 y.m.dst,.int .i64 y.m.term,.int .i64 y.m.index,.int .i64 y.m.last,.int .i64 y.m.commit,.bool y.m.ok,.slice y.ea y.es.length y.ec,.int .i64 0,.int .i64 0,.int .u8 0,.slice none 0 0,.slice none 0 0],.int .i64 (NC.now kd)] w' (RetEf (NC.mut X) (fun j=>j= NC.g kd) w' (NC.g kd) (hearG (NC.x kd).n y.m (NC.now kd)).1 (hearG (NC.x kd).n y.m (NC.now kd)).2):=hear_nd ((HPC.next hb).nd kd HKD.1 HKD.2) hgd y ((HMC.below hb).mono (fun j h6=>h6.elim id (fun h7=> .inr (.inl ⟨kd,HKD.1,HKD.2,h7⟩)))) (NC.now kd) hno.1 o_ o_ o_ (show(NC.x kd).n.es.length≤3999 by omega) hmel hab.1 hab.2.1 hab.2.2.1 hab.2.2.2.1 (hdk.trans hsf.symm) hab.2.2.2.2.1 o_ hmb.1 hmb.2 (hearG_self _ _ _);rw[hdk]at h5;exact h5
  have HAF:=h_ (fun(w8 w9:World) (en:Ending) (hb:Below w16.heap.size w16 w8) (hr:RetEf (NC.mut X) (fun j=>j= NC.g kd) w8 (NC.g kd) (hearG (NC.x kd).n y.m (NC.now kd)).1 (hearG (NC.x kd).n y.m (NC.now kd)).2 en w9)=>step_aft (N:=NC) (i:=i) (HXC.next hb) (HPC.next hb) (Nat.le_trans HBS.out (Nat.le_trans HBC.size hb.size)) HLC2.out HKD.1 HKD.2 hil o_ (HIC.mono (Nat.le_succ i)) hr hke ((HIC.st kd HKD.1 HKD.2).hear o_ o_ y.m (NC.now kd)).endF (hear_few _ _ _));have HRK:=h_ (fun(w8 w9:World) (en:Ending) (hr:RetEf (NC.mut X) (fun j=>j= NC.g kd) w8 (NC.g kd) (hearG (NC.x kd).n y.m (NC.now kd)).1 (hearG (NC.x kd).n y.m (NC.now kd)).2 en w9)=>hr.kept);generalize hearG (NC.x kd).n y.m (NC.now kd)=tg at HHE HAF HRK;have HYK:Hid (∀w',Bex w' gy (cellsMs y)→w'.cell? ⟨gy,2,none⟩=some (.int .i64 (kd:Int))):=fun w' h5=>by rw[←hdk];exact h5.box.cell (j:=2) rfl
  clear hgd hsf hke hmb hbd hno hab hmel hhl hcl hdk hil;refine wrq (fun l w'=>(True)∧Till 19 l (w'.cell? ⟨gy,0,none⟩=some (.int .i8 y.m.kind)∧w'.cell? ⟨gy,1,none⟩=some (.int .i64 y.m.src)∧w'.cell? ⟨gy,2,none⟩=some (.int .i64 (kd:Int))∧w'.cell? ⟨gy,3,none⟩=some (.int .i64 y.m.term)∧w'.cell? ⟨gy,4,none⟩=some (.int .i64 y.m.index)∧w'.cell? ⟨gy,5,none⟩=some (.int .i64 y.m.last)∧w'.cell? ⟨gy,6,none⟩=some (.int .i64 y.m.commit)∧w'.cell? ⟨gy,7,none⟩=some (.bool y.m.ok)∧w'.cell? ⟨gy,8,none⟩=some (.slice y.ea y.es.length y.ec)∧w'.cell? ⟨gy,9,none⟩=some (.int .i64 0)∧w'.cell? ⟨gy,10,none⟩=some (.int .i64 0)∧w'.cell? ⟨gy,11,none⟩=some (.int .u8 0)∧w'.cell? ⟨gy,12,none⟩=some (.slice none 0 0)∧w'.cell? ⟨gy,13,none⟩=some (.slice none 0 0)∧w'.cell? ⟨X,kd,none⟩=some (.pointer (some ⟨NC.g kd,0,none⟩))∧w'.cell? ⟨X,4+kd,none⟩=some (.int .i64 (NC.now kd)))) ?_;obtain⟨w17,hwd⟩:∃y,y=World.drew w16:=⟨_,rfl⟩;rw[←hwd];have hb:Below w16.heap.size w16 w17:=by rw[hwd];exact b_.drew
  clear hwd;have HW17:=h_ hb;have HX17:=h_ (HXC.next hb);have HY17:=h_ (HYC.next hb);have HB17:Hid (Below Bs w16 w17):=hb.mono (Nat.le_trans HBS.out HBC.size);clear hb;refine toS ⟨trivial,fun _=>⟨HY17.box.cell (j:=0) rfl,HY17.box.cell (j:=1) rfl,HYK.out _ HY17.out,HY17.box.cell (j:=3) rfl,HY17.box.cell (j:=4) rfl,HY17.box.cell (j:=5) rfl,HY17.box.cell (j:=6) rfl,HY17.box.cell (j:=7) rfl,HY17.box.cell (j:=8) rfl,HY17.box.cell (j:=9) rfl,HY17.box.cell (j:=10) rfl,HY17.box.cell (j:=11) rfl,HY17.box.cell (j:=12) rfl,HY17.box.cell (j:=13) rfl,(HX17.cell' kd).trans (nt_ptr HKD.1 HKD.2),(HX17.cell' (4+kd)).trans (nt_now HKD.2)⟩⟩ ?_;refine ttq [] 0 ?_;refine ttq [] 1 ?_;refine ttq [19] 2 ?_;refine ttq [] 3 ?_;refine ttq [] 4 ?_;refine ttq [8,9,18,19] 5 ?_ (hy:=Or.inl ⟨by rfl,by(rintro w ⟨l,hD,hSw⟩;(try dsimp only at hSw);have hC0:=hSw.2 (hD 19 d_);replace hSw:=hSw.1;clear hD;go_simp;rfl)⟩);refine ttq [] 6 ?_;refine ttq [] 7 ?_;refine ttq [] 8 ?_;refine ttq [18,19] 9 ?_ (hy:=Or.inl ⟨by rfl,by(rintro w ⟨l,hD,hSw⟩;(try dsimp only at hSw);have hC0:=hSw.2 (hD 19 d_);replace hSw:=hSw.1;clear hD;go_simp;rfl)⟩);refine ttq [18,19] 10 ?_ (hy:=Or.inl ⟨by rfl,by(rintro w ⟨l,hD,hSw⟩;(try dsimp only at hSw);have hC0:=hSw.2 (hD 19 d_);replace hSw:=hSw.1;clear hD;go_simp;rfl)⟩);refine ttq [] 11 ?_;refine ttq [] 12 ?_;refine ttq [16,17,18,19] 13 ?_ (hy:=Or.inl ⟨by rfl,by(rintro w ⟨l,hD,hSw⟩;(try dsimp only at hSw);have hC0:=hSw.2 (hD 19 d_);replace hSw:=hSw.1;clear hD;go_simp;rfl)⟩);refine ttq [] 14 ?_;refine ttq [] 15 ?_;refine ttq [] 16 ?_;refine ttq [18,19] 17 ?_ (hy:=Or.inl ⟨by rfl,by(rintro w ⟨l,hD,hSw⟩;(try dsimp only at hSw);have hC0:=hSw.2 (hD 19 d_);replace hSw:=hSw.1;clear hD;go_simp;rfl)⟩);refine soq 18 (fun K hK=> ?_);go_simp;go_at_call 10
  with_reducible refine(HHE.out _ HW17.out).mono ?_
  intro en w18 hr;have hkp:=HRK.out _ _ _ hr;obtain⟨ef,hen,hx9,hb9,haf⟩:=HAF.out _ _ _ HW17.out hr;subst hen;have HX18:=h_ hx9;have HY18:=h_ (HY17.block (hkp.block gy HY17.lt (fun h5=>HGY.out h5.symm)));have HB18:Hid (Below Bs w16 w18):=HB17.trans hb9;have HF18:=h_ (haf w18 b_);clear hr hx9 hb9 haf hkp;refine hK.out _ _ ⟨trivial,fun _=>⟨HY18.box.cell (j:=0) rfl,HY18.box.cell (j:=1) rfl,HYK.out _ HY18.out,HY18.box.cell (j:=3) rfl,HY18.box.cell (j:=4) rfl,HY18.box.cell (j:=5) rfl,HY18.box.cell (j:=6) rfl,HY18.box.cell (j:=7) rfl,HY18.box.cell (j:=8) rfl,HY18.box.cell (j:=9) rfl,HY18.box.cell (j:=10) rfl,HY18.box.cell (j:=11) rfl,HY18.box.cell (j:=12) rfl,HY18.box.cell (j:=13) rfl,(HX18.cell' kd).trans (nt_ptr HKD.1 HKD.2),(HX18.cell' (4+kd)).trans (nt_now HKD.2)⟩⟩ ?_;clear hK K;refine soq 19 (fun K hK=> ?_);go_simp;go_at_call 23
  with_reducible refine HF18.out.mono ?_
  rintro en w19 ⟨rfl,hr⟩;have HR:=h_ hr;clear hr;refine hK.out _ _ ⟨trivial,fun h=>absurd h d_⟩ ?_;clear hK K;refine ttq [] 20 ?_;refine sdq ?_;go_wp2_with fail;go_ret;obtain⟨N',a1,a2,a3,a4,a5,a6⟩:=HR.out;exact⟨rfl,N',a1,a2,a3,a4,by have:=HAL2.out;omega,(HBC.trans HB18.out).trans a6⟩
 ·have kyc:=HYC.box.cell (j:=2) rfl;by_cases g1:1≤ y.m.dst
  ·have g3:¬y.m.dst≤ 3:=fun h5=>hd ⟨g1,h5⟩
   have d1:decide (1≤y.m.dst)=true:= decide_eq_true g1;have d2:decide (y.m.dst≤3)=false:= decide_eq_false g3;exact tq75
  ·have d1:decide (1≤y.m.dst)=false:= decide_eq_false g1;exact tq75
end Go.Proofs.YtoeofkcpclfnhaaGreat
namespace Go.Proofs.YtoeofkcpclfnhaaGreat
open Go.ChangeShapes Go.WideShapes Go.ChangeAt Go.RowKit
set_option maxRecDepth 100000
open Raf (RN NetOk updN)
set_option maxHeartbeats 16000000
section
variable {S S' T:Nat→ Prop} {w1 wA wb w2:World} {g q:Nat}
theorem RetEf.put{n1:RN}{ms:List WMsg}{en:Ending}(h:RetEf S' T wA g n1 ms en wb)(hw:Wrote q wb w2)(hq:S' q)(hg:g≠ q)(hb:Below w1.heap.size w1 wA)(hq1:w1.heap.size≤ q)(hS:∀k,S k→S' k):RetEf S T w1 g n1 ms en w2:=by
 obtain⟨T',x',e',r,rfl,hst,hx,hn,hm,hr,hin,hms,hc,hl⟩:=h;have hk:Keep (fun k=>k= q) wb w2:=Keep.wrote hw rfl;have hr2:FRow (fun k=>k= q) wb r.sa (r.sl.flatMap cellsMs):=⟨hr,fun h0 b o s e h5=>(hin b (by rw[e];rfl)).2 (h5▸hq)⟩;have hs2:Stp T w1 T' w2:=⟨⟨hk.os.trans (hst.keep.os.trans hb.os),hk.tape.trans (hst.keep.tape.trans hb.tape),hk.output.trans (hst.keep.output.trans hb.output),Nat.le_trans hb.size (Nat.le_trans hst.keep.size hk.size),fun k h5 h6=>(hk.block k (Nat.lt_of_lt_of_le h5 (Nat.le_trans hb.size hst.keep.size)) o_).trans ((hst.keep.block k (Nat.lt_of_lt_of_le h5 hb.size) h6).trans (hb.block k h5))⟩,hst.up,fun k h5 h6=>hst.new k (Nat.lt_of_lt_of_le h5 hb.size) h6,fun k h5=>(hst.old k h5).imp id (fun h6=>Nat.lt_of_lt_of_le h6 hk.size)⟩;exact⟨T',x',e',r,rfl,hs2,hx,(hn.far hw hq hg).sub hS (fun _ h5=>h5) hn.tg,hm,(hr2.step (U':=fun _=>False) hk (fun _ h5=>h5) (fun _ _ h5=>h5.elim)).row,fun k h5=>⟨(hin k h5).1,fun h6=>(hin k h5).2 (hS k h6)⟩,fun m h5=>((hms m h5).step hk (fun k h6=>by rw[h6];exact .inl hq) (fun _ _ h6=>h6)).mono (fun k h6=>h6.imp (hS k) id),hc,hl⟩
def PpO(S T:Nat→ Prop)(w:World)(g:Nat)(r:Option (RN×List WMsg))(ef:Ef)(er:Int)(w':World):Prop:= (r=none∧ er≠0∧ Below w.heap.size w w')∨(∃p,r=some p∧er= 0∧RetEf S T w g p.1 p.2 (.returned (.agg (cellsEf ef).toArray)) w')
theorem PpO.of{r:Option (RN×List WMsg)}{en:Ending}(h:RetPp S T wA g r en wb):∃(i:Int) (ef:Ef) (er:Int),en= .returned (.tuple #[.int .i64 i,.agg (cellsEf ef).toArray,.int .i64 er])∧PpO S T wA g r ef er wb:=by
 rcases h with⟨h1,i,ef,er,h2,h3,h4⟩|⟨n1,ms,i,ef,h1,h2,h3⟩
 ·exact⟨i,ef,er,h2,.inl ⟨h1,h3,h4⟩⟩
 ·exact⟨i,ef,0,h2,.inr ⟨(n1,ms),h1,rfl,h3⟩⟩
variable {r:Option (RN×List WMsg)} {ef:Ef} {er:Int}
theorem PpO.next(h:PpO S T wA g r ef er wb)(hb:Below wb.heap.size wb w2):PpO S T wA g r ef er w2:=by
 rcases h with⟨h1,h2,h3⟩|⟨p,h1,h2,h3⟩
 ·exact .inl ⟨h1,h2,h3.trans (hb.mono h3.size)⟩
 ·exact .inr ⟨p,h1,h2,h3.next hb⟩
theorem PpO.put(h:PpO S' T wA g r ef er wb)(hw:Wrote q wb w2)(hq:S' q)(hg:g≠ q)(hb:Below w1.heap.size w1 wA)(hq1:w1.heap.size≤ q)(hS:∀k,S k→S' k):PpO S T w1 g r ef er w2:=by
 rcases h with⟨h1,h2,h3⟩|⟨p,h1,h2,h3⟩
 ·exact .inl ⟨h1,h2,(hb.trans (h3.mono hb.size)).trans (hw.below _ hq1)⟩
 ·exact .inr ⟨p,h1,h2,h3.put hw hq hg hb hq1 hS⟩
theorem PpO.base(h:PpO S T wA g r ef er wb)(hb:Below w1.heap.size w1 wA)(hT:Old T wA):PpO S T w1 g r ef er wb:=by
 rcases h with⟨h1,h2,h3⟩|⟨p,h1,h2,h3⟩
 ·exact .inl ⟨h1,h2,hb.trans (h3.mono hb.size)⟩
 ·exact .inr ⟨p,h1,h2,h3.down hb (fun _ h5=>h5) (fun _ h5=> .inl h5) (fun _ h5=>h5) hT⟩
theorem PpO.keep(h:PpO S T wA g r ef er wb):Keep T wA wb:=by
 rcases h with⟨_,_,h3⟩|⟨p,_,_,h3⟩
 ·exact Keep.of h3
 ·exact h3.kept
end
theorem nd_own{N:Nt}{X k:Nat}{w1 wA:World}(gr:Nat)(hp:NtP w1 X N)(hX:X< w1.heap.size)(h1:1≤ k)(h3:k≤ 3)(hb:Below w1.heap.size w1 wA)(hgr:w1.heap.size≤ gr)(hgl:gr< wA.heap.size):NdAt (fun j=>N.mut X j∨j= gr) (fun j=>j= N.g k) wA (N.g k) (N.x k) (N.e k):=
 (hp.nd k h1 h3).both ((hp.next hb).nd k h1 h3) (fun j h5=>h5.imp id (fun h6=>by omega)) (fun j h5=>by
  rcases h5 with h5|h5
  ·exact Nat.lt_of_lt_of_le (hp.old hX j h5) hb.size
  ·rw[h5];exact hgl)
theorem y_own{N:Nt}{X k gs:Nat}{w1 wA:World}{R:Nat→ Prop}(hp:NtP w1 X N)(hX:X< w1.heap.size)(h1:1≤ k)(h3:k≤ 3)(hR:∀j,R j→N.mut X j∨(w1.heap.size≤j∧ j≠gs))(hgs:w1.heap.size≤ gs)(b:UInt8)(hb:Bex wA gs [B b]):YAt (Un R (fun j=>j= N.g k)) wA (⟨0,2,0,0,[b]⟩,(some ⟨gs,0,none⟩,1)):=
 ⟨⟨Row.of_bex hb,fun _ b2 o s e h5=>by
  simp only[Option.some.injEq,Addr.mk.injEq]at e;obtain⟨rfl,-,-⟩:=e;rcases h5 with h5|h5
  ·rcases hR _ h5 with h6|h6
   ·have:=hp.old hX _ h6;omega
   ·exact h6.2 rfl
  ·have:=(hp.nd k h1 h3).lt;omega⟩,(show 1≤1000000 by decide),Nat.le_refl _,fun h=>by cases h⟩
theorem op_build_one{dst:Option Tmp}{t:TypeId}{p:String}{af:Array Edge}{gd:Option (Nat×Bool)}{a:Act}{w:World}{K:Act→ World→Prop}{Q:Exit→ Act→World→ Prop}(x:Operand)(b:UInt8)(hx:a.eval x=B b)(h:∀w',Bex w' w.heap.size [B b]→Below w.heap.size w w'→w'.heap.size= w.heap.size+1→ K (a.put dst (.slice (some ⟨w.heap.size,0,none⟩) 1 1)) w'):Oper.wp Tryz.prog {dst:=dst,op:= .buildSlice 45 1 #[(0,x)],type:=t,pos:=p,after:=af,guard:=gd} a w K Q:=by
 unfold Oper.wp execOp;simp only[hx,List.map_toArray,List.map_cons,List.map_nil];go_simp;refine new_block ?_;exact h
end Go.Proofs.YtoeofkcpclfnhaaGreat
namespace Go.Proofs.YtoeofkcpclfnhaaGreat
open Go.ChangeShapes Go.WideShapes Go.ChangeAt Go.RowKit
set_option maxRecDepth 100000
set_option maxHeartbeats 16000000
theorem tq76 {P:Prop}(h:P:=by
 refine soq 20 (fun K hK=> ?_);go_simp;have hnd:NdAt (fun j=>N.mut X j∨j= gr) (fun j=>j= N.g k) w3 (N.g k) (N.x k) (N.e k):=nd_own gr HP1.out HX1.lt HK.1 HK.2 HBv.out HGR.out HGc.lt;have hya:YAt (Un (fun j=>N.mut X j∨j= gr) (fun j=>j= N.g k)) w3 ((⟨0,2,0,0,[bt]⟩:WEnt),(some ⟨gs,0,none⟩,1)):=y_own HP1.out HX1.lt HK.1 HK.2 (fun j h5=>h5.imp id (fun h6=>⟨by rw[h6];exact HGR.out,by rw[h6];exact HNE.out⟩)) HGS.out bt HSc.out;have hcall:Calls Tryz.prog 24 #[.pointer (some ⟨N.g k,0,none⟩),.agg #[.int .i64 0,.int .i8 2,.int .i64 0,.int .u8 0,.slice (some ⟨gs,0,none⟩) 1 1],.int .i64 (N.now k)] w3 (RetPp (fun j=>N.mut X j∨j= gr) (fun j=>j= N.g k) w3 (N.g k) (propG (N.x k).n (⟨0,2,0,0,[bt]⟩:WEnt))):=propose_nd hnd HGD.out (⟨0,2,0,0,[bt]⟩:WEnt) (some ⟨gs,0,none⟩) 1 hya (.inr rfl) (N.now k) HL39.out;go_at_call 24
 with_reducible refine hcall.mono ?_
 intro en w4 hr;obtain⟨ix,ef,er,hen,hpo⟩:=PpO.of hr;subst hen;have HWA:Hid (Below w1.heap.size w1 w3):=HBv.out;replace HGc:=h_ (HGc.block (hpo.keep.block gr HGc.lt (fun h5=>by have:=HP1.nd k HK.1 HK.2|>.lt;have:=HGR.out;omega)));have HPO:=h_ hpo;clear hr hpo hnd hya hcall HXc HBv HSc HGS HNE;refine hK.out _ _ ⟨trivial,fun h=>absurd h d_⟩ ?_;clear hK K;refine ttq [] 21 ?_;refine ttq [] 22 ?_;refine ttq [] 23 ?_;refine ttq [] 24 ?_;refine ttq [] 26 ?_;refine soq 27 (fun K hK=> ?_);rw[if_pos (by rfl)];refine op_store_bex layEf (.tmp 10) (.tmp 201) rfl gr ef _ rfl rfl HGc.out rfl ?_;intro w5 hx hw;replace HGc:=h_ hx;replace HPO:Hid (PpO (N.mut X) (fun j=>j= N.g k) w1 (N.g k) (propG (N.x k).n (⟨0,2,0,0,[bt]⟩:WEnt)) ef er w5):=HPO.put hw (.inr rfl) (by have:=HP1.nd k HK.1 HK.2|>.lt;have:=HGR.out;omega) HWA.out HGR.out (fun _ h5=> .inl h5);clear HWA;clear hx hw;refine hK.out _ _ ⟨trivial,fun h=>absurd h d_⟩ ?_;clear hK K;refine ttq [] 28 ?_;refine sdq ?_;revert HPO;revert HGc;revert HGR;revert er;revert ef;revert ix;revert gr;revert w5;revert gs;revert HB1;revert HP1;revert HX1;revert w1
 exact CUT.out):P:=h
theorem act_cmd{w:World}{X Bs i:Nat}{N:Nt}(hx:Bex w X (cellsNt N))(hp:NtP w X N)(hB:Bs≤ w.heap.size)(hlo:∀j,N.mut X j→Bs≤ j)(hinv:NetInv N i)(hi:i< 400)(hal:N.air.length≤ 300)(K nw:Int)(set:UInt8):
 Calls Tryz.prog 7 #[.pointer (some ⟨X,0,none⟩),.agg #[.int .i64 4,.int .i64 K,.int .i64 nw,Go.Proofs.YtoeofkcpclfnhaaGreat.B set]] w (RetAc w Bs X i N):=by
 have HBB:Hid (Below w.heap.size w (w.alloc (.cells #[.int .i64 4,.int .i64 K,.int .i64 nw,Go.Proofs.YtoeofkcpclfnhaaGreat.B set] 50))):=mid_alloc' b_;have HA0:Hid (Bex (w.alloc (.cells #[.int .i64 4,.int .i64 K,.int .i64 nw,Go.Proofs.YtoeofkcpclfnhaaGreat.B set] 50)) w.heap.size [.int .i64 4,.int .i64 K,.int .i64 nw,Go.Proofs.YtoeofkcpclfnhaaGreat.B set]):=Bex.new w [.int .i64 4,.int .i64 K,.int .i64 nw,Go.Proofs.YtoeofkcpclfnhaaGreat.B set] 50;have HX0:=h_ (hx.next HBB.out);have HP0:=h_ (hp.next HBB.out);have HLO:=h_ hlo;have HBS:=h_ hB;have HIV:=h_ hinv;have HIL:=h_ (And.intro hi hal);have HXW:=h_ hx.lt;have e1:=i64_and1023 K;obtain⟨r,hr,hr0,hr1⟩:∃r,K%1024= r∧0≤ r∧r< 1024:=⟨_,rfl,by omega,by omega⟩;rw[hr]at e1;obtain⟨k,hk,hk1,hk3⟩:∃k: Nat,1+r% 3=(k:Int)∧1≤ k∧k≤ 3:=⟨(1+r% 3).toNat,by omega,by omega,by omega⟩;have HK:=h_ (And.intro hk1 hk3);have e2:wrap64 (1+r.tmod 3)=(k:Int):=by rw[Int.tmod_eq_emod_of_nonneg hr0,IntWalk.wrap64_in _ o_];exact hk
 obtain⟨L,hL⟩:∃L,N.air.length=L:= ⟨_,rfl⟩;have HL:=h_ hL;have HX32:Hid (∀w',Bex w' X (cellsNt N)→w'.cell? ⟨X,32,none⟩=some (.slice N.aa L N.ac)):=fun w' h=>by rw[←HL.out];exact(h.cell' 32).trans rfl
 have ka0:=HA0.box.cell (j:=0) rfl;have ka1:=HA0.box.cell (j:=1) rfl;have ka2:=HA0.box.cell (j:=2) rfl;have ka3:=HA0.box.cell (j:=3) rfl;have kx:=HX32.out _ HX0.out;clear hx hp hB hlo hinv hi hal hr hr0 hr1 hk hk1 hk3 hL;go_enter Tryz.func7,Tryz.ntmps7;go_upto_if 27 with fail;rw[e2];go_cut [6]from 28 to 48 (fun v wx=>∃m: Int,v= .int .i64 m∧Hid (0<L→ 0≤m∧ m<L)∧Hid (Below (w.alloc (.cells #[.int .i64 4,.int .i64 K,.int .i64 nw,Go.Proofs.YtoeofkcpclfnhaaGreat.B set] 50)).heap.size (w.alloc (.cells #[.int .i64 4,.int .i64 K,.int .i64 nw,Go.Proofs.YtoeofkcpclfnhaaGreat.B set] 50)) wx))
 case first=>as_aux_lemma=>
  rcases Nat.eq_zero_or_pos L with h0|h0
  ·subst h0;go_wp2_with fail;go_meet;exact⟨0,rfl,(fun h=>absurd h (Nat.lt_irrefl 0)),Below.refl _ _⟩
  ·obtain⟨p1,p2,p3,p4⟩:=pick_lt K h0;have HPK:=h_ (And.intro p1 p2);have d0:decide (0<L)=true:= decide_eq_true h0;have d1:decide ((0:Int)<(L:Int))=true:= decide_eq_true o_;have d2:¬(L:Int)=0:= o_;have d3:¬L= 0:=o_;have HLB:Hid (L≤300):=by show _≤_;rw[←HL.out];exact HIL.2
   have f1:IntKind.i64.wrap (Int.tmod K L+L)=Int.tmod K L+L:= by have:=HLB.out;exact IntWalk.i64_in _ o_
   clear p1 p2 p3 p4 h0;go_upto_region 4 with fail;refine wrq (fun l w'=>(w'.cell? ⟨w.heap.size,1,none⟩=some (.int .i64 K)∧w'.cell? ⟨X,32,none⟩=some (.slice N.aa L N.ac))) ?_;obtain⟨w4,hwd⟩:∃y,y=World.drew (w.alloc (.cells #[.int .i64 4,.int .i64 K,.int .i64 nw,Go.Proofs.YtoeofkcpclfnhaaGreat.B set] 50)):=⟨_,rfl⟩;rw[←hwd];have hb:Below (w.alloc (.cells #[.int .i64 4,.int .i64 K,.int .i64 nw,Go.Proofs.YtoeofkcpclfnhaaGreat.B set] 50)).heap.size (w.alloc (.cells #[.int .i64 4,.int .i64 K,.int .i64 nw,Go.Proofs.YtoeofkcpclfnhaaGreat.B set] 50)) w4:=by rw[hwd];exact b_.drew
   clear hwd;have HB4:=h_ hb;clear hb;refine toS ⟨(HA0.next HB4.out).box.cell (j:=1) rfl,HX32.out _ (HX0.next HB4.out)⟩ ?_;refine tkq 0 ?_;refine tkq 1 ?_;refine tkq 2 ?_;refine tkq 3 ?_;refine tkq 4 ?_;refine tkq 5 ?_;refine tkq 6 ?_;refine tkq 7 ?_;refine tkq 8 ?_;refine tkq 9 ?_;refine tkq 10 ?_;refine tkq 11 ?_;refine tkq 12 ?_;refine tkq 13 ?_;refine tkq 14 ?_;refine tkq 15 ?_;refine tkq 16 ?_;refine tkq 17 ?_;refine tkq 18 ?_;refine tkq 19 ?_;refine tkq 20 ?_;refine sdq ?_;go_wp2_with fail;go_meet;exact⟨_,rfl,(fun _=>HPK.out),HB4⟩
 obtain⟨m,rfl,HM,HBx⟩:=hcut;have HBw:=h_ (HBB.trans (HBx.mono HBB.size));have HX:=h_ (HX0.next HBx.out);have HP:=h_ (HP0.next HBx.out);have HA:=h_ (HA0.next HBx.out);have HBc:Hid (Below Bs w wc):=HBw.mono HBS.out;have ka0:=HA.box.cell (j:=0) rfl;have HBS2:Hid (Bs≤wc.heap.size):=Nat.le_trans HBS.out HBw.size;go_upto_region 19 with fail;have i1:k< 4:=by have:=HK.2;omega
 have i2:(k:Int)<4:= o_;have i3:(0:Int)≤(k:Int):=o_;obtain⟨hgd,hsf,-⟩:=gd_of HIV.ok (by have:=HIL.1;omega) HK.1 HK.2 (HIV.st k HK.1 HK.2) (by have:=HIL.1;omega);have HGD:=h_ hgd;have hbd:=HIV.ok.bounds HK.1 HK.2;(try simp only at hbd);have HL39:Hid ((N.x k).n.es.length≤3999):=by show _≤_;have:=HIL.1;omega
 clear ka0 hgd hsf hbd;obtain⟨DL,hDL⟩:∃DL,N.done.length=DL:= ⟨_,rfl⟩;have HX34:Hid (∀w',Bex w' X (cellsNt N)→w'.cell? ⟨X,34,none⟩=some (.slice N.da DL N.dc)):=fun w' h=>by rw[←hDL];exact(h.cell' 34).trans rfl
 obtain⟨bt,hbt⟩:∃bt: UInt8,IntKind.u8.wrap (DL:Int)=(bt.toNat:Int):=⟨UInt8.ofNat DL,by rw[IntKind.wrap_u8];simp⟩;have HBT:=h_ hbt;clear hDL;apply cut_here
 ·intro CUT;refine wrq (fun l w'=>(True)∧Till 20 l (w'.cell? ⟨X,k,none⟩=some (.pointer (some ⟨N.g k,0,none⟩))∧w'.cell? ⟨X,4+k,none⟩=some (.int .i64 (N.now k))∧w'.cell? ⟨X,34,none⟩=some (.slice N.da DL N.dc))) ?_;obtain⟨w1,hwd⟩:∃y,y=World.drew wc:=⟨_,rfl⟩;rw[←hwd];have hb:Below wc.heap.size wc w1:=by rw[hwd];exact b_.drew
  clear hwd;have HX1:=h_ (HX.next hb);have HP1:=h_ (HP.next hb);have HB1:=h_ (HBc.trans (hb.mono HBS2.out));have HXc:=HX1;have HBv:Hid (Below w1.heap.size w1 w1):=Below.refl _ _;clear hb;refine toS ⟨trivial,fun _=>⟨(HXc.cell' k).trans (nt_ptr HK.1 HK.2),(HXc.cell' (4+k)).trans (nt_now HK.2),HX34.out _ HXc.out⟩⟩ ?_;refine ttq [] 0 ?_;refine ttq [] 1 ?_;refine ttq [] 2 ?_;refine ttq [] 3 ?_;refine ttq [] 4 ?_;refine ttq [20] 5 ?_;refine ttq [] 6 ?_;refine ttq [] 7 ?_;refine ttq [] 8 ?_;refine ttq [10,11,12,13,20] 9 ?_ (hy:=Or.inl ⟨by rfl,by(rintro w ⟨l,hD,hSw⟩;(try dsimp only at hSw);have hC0:=hSw.2 (hD 20 d_);replace hSw:=hSw.1;clear hD;go_simp;rfl)⟩);refine ttq [] 10 ?_;refine ttq [] 11 ?_;refine ttq [] 14 ?_;refine ttq [] 15 ?_;refine ttq [] 16 ?_;refine ttq [] 17 ?_;refine ttq [] 18 ?_;refine ttq [20] 19 ?_;refine s2q 12 25 (fun K hK=> ?_) (fun K hK=> ?_)
  ·refine op_build_one (.tmp 190) bt rfl ?_;intro w2 hxb hbb hsb;have HSc:=h_ hxb;obtain⟨gs,hgs⟩:∃q,q=w1.heap.size:= ⟨_,rfl⟩;rw[←hgs]at HSc ⊢;have HGS:Hid (w1.heap.size≤gs):=by show _≤_;have:=HBv.size;omega
   replace HXc:=h_ (HXc.next hbb);replace HBv:=h_ (HBv.trans (hbb.mono HBv.size));clear hxb hbb hsb hgs;refine hK.out _ _ ⟨trivial,fun _=>⟨(HXc.cell' k).trans (nt_ptr HK.1 HK.2),(HXc.cell' (4+k)).trans (nt_now HK.2),HX34.out _ HXc.out⟩⟩ ?_;clear hK K;refine ttq [] 13 ?_;refine s2q 20 25 (fun K hK=> ?_) (fun K hK=> ?_)
   ·go_simp;have hnd:NdAt (N.mut X) (fun j=>j= N.g k) w2 (N.g k) (N.x k) (N.e k):=(HP1.next HBv.out).nd k HK.1 HK.2;have hya:YAt (Un (N.mut X) (fun j=>j= N.g k)) w2 ((⟨0,2,0,0,[bt]⟩:WEnt),(some ⟨gs,0,none⟩,1)):=y_own HP1.out HX1.lt HK.1 HK.2 (fun j h5=> .inl h5) HGS.out bt HSc.out;have hcall:Calls Tryz.prog 24 #[.pointer (some ⟨N.g k,0,none⟩),.agg #[.int .i64 0,.int .i8 2,.int .i64 0,.int .u8 0,.slice (some ⟨gs,0,none⟩) 1 1],.int .i64 (N.now k)] w2 (RetPp (N.mut X) (fun j=>j= N.g k) w2 (N.g k) (propG (N.x k).n (⟨0,2,0,0,[bt]⟩:WEnt))):=propose_nd hnd HGD.out (⟨0,2,0,0,[bt]⟩:WEnt) (some ⟨gs,0,none⟩) 1 hya (.inr rfl) (N.now k) HL39.out;go_at_call 24
    with_reducible refine hcall.mono ?_
    intro en w3 hr;obtain⟨ix,ef,er,hen,hpo⟩:=PpO.of hr;subst hen;have HPO:=h_ (hpo.base HBv.out hnd.ot);obtain⟨wq,hwq⟩:∃q,q=w3:= ⟨_,rfl⟩;have HQB:Hid (Below wq.heap.size wq w3):=by rw[hwq];exact Below.refl _ _
    rw[←hwq]at HPO;have HWQ:Hid (w1.heap.size≤wq.heap.size):=by rw[hwq];exact Nat.le_trans HBv.size hpo.keep.size
    clear hwq;clear hr hpo hnd hya hcall HXc HBv HSc HGS;refine hK.out _ _ ⟨trivial,fun h=>absurd h d_⟩ ?_;clear hK K;refine ttq [] 21 ?_;refine ttq [] 22 ?_;refine ttq [] 23 ?_;refine ttq [] 24 ?_;refine soq 25 (fun K hK=> ?_);go_simp;refine new_block ?_;intro w4 hxb hbb hsb;have HGc:=h_ hxb;obtain⟨gr,hgr⟩:∃q,q=w3.heap.size:= ⟨_,rfl⟩;rw[←hgr]at HGc ⊢;have HGR:Hid (wq.heap.size≤gr):=by show _≤_;have:=HQB.size;omega
    replace HQB:=h_ (HQB.trans (hbb.mono HQB.size));clear hxb hbb hsb hgr;refine hK.out _ _ ⟨trivial,fun h=>absurd h d_⟩ ?_;clear hK K;refine ttq [] 26 ?_;refine soq 27 (fun K hK=> ?_);rw[if_pos (by rfl)];refine op_store_bex layEf (.tmp 10) (.tmp 201) rfl gr ef _ rfl rfl HGc.out rfl ?_;intro w5 hx hw;replace HGc:=h_ hx;replace HPO:Hid (PpO (N.mut X) (fun j=>j= N.g k) w1 (N.g k) (propG (N.x k).n (⟨0,2,0,0,[bt]⟩:WEnt)) ef er w5):=HPO.next (HQB.trans (hw.below _ HGR.out));replace HGR:Hid (w1.heap.size≤gr):=Nat.le_trans HWQ.out HGR.out;clear HWQ HQB;clear hx hw;refine hK.out _ _ ⟨trivial,fun h=>absurd h d_⟩ ?_;clear hK K;refine ttq [] 28 ?_;refine sdq ?_;revert HPO;revert HGc;revert HGR;revert er;revert ef;revert ix;revert gr;revert w5;revert gs;revert HB1;revert HP1;revert HX1;revert w1;exact CUT.out
   ·go_simp;refine new_block ?_;intro w3 hxb hbb hsb;have HGc:=h_ hxb;obtain⟨gr,hgr⟩:∃q,q=w2.heap.size:= ⟨_,rfl⟩;rw[←hgr]at HGc ⊢;have HGR:Hid (w1.heap.size≤gr):=by show _≤_;have:=HBv.size;omega
    have HNE:Hid (gr≠gs):=by show _≠_;have:=HSc.lt;omega
    replace HSc:=h_ (HSc.next hbb);replace HXc:=h_ (HXc.next hbb);replace HBv:=h_ (HBv.trans (hbb.mono HBv.size));clear hxb hbb hsb hgr;refine hK.out _ _ ⟨trivial,fun _=>⟨(HXc.cell' k).trans (nt_ptr HK.1 HK.2),(HXc.cell' (4+k)).trans (nt_now HK.2),HX34.out _ HXc.out⟩⟩ ?_;clear hK K;exact tq76
  ·go_simp;refine new_block ?_;intro w2 hxb hbb hsb;have HGc:=h_ hxb;obtain⟨gr,hgr⟩:∃q,q=w1.heap.size:= ⟨_,rfl⟩;rw[←hgr]at HGc ⊢;have HGR:Hid (w1.heap.size≤gr):=by show _≤_;have:=HBv.size;omega
   replace HXc:=h_ (HXc.next hbb);replace HBv:=h_ (HBv.trans (hbb.mono HBv.size));clear hxb hbb hsb hgr;refine hK.out _ _ ⟨trivial,fun _=>⟨(HXc.cell' k).trans (nt_ptr HK.1 HK.2),(HXc.cell' (4+k)).trans (nt_now HK.2),HX34.out _ HXc.out⟩⟩ ?_;clear hK K;refine soq 12 (fun K hK=> ?_);refine op_build_one (.tmp 190) bt rfl ?_;intro w3 hxb hbb hsb;have HSc:=h_ hxb;obtain⟨gs,hgs⟩:∃q,q=w2.heap.size:= ⟨_,rfl⟩;rw[←hgs]at HSc ⊢;have HGS:Hid (w1.heap.size≤gs):=by show _≤_;have:=HBv.size;omega
   have HNE:Hid (gr≠gs):=by show _≠_;have:=HGc.lt;omega
   replace HGc:=h_ (HGc.next hbb);replace HXc:=h_ (HXc.next hbb);replace HBv:=h_ (HBv.trans (hbb.mono HBv.size));clear hxb hbb hsb hgs;refine hK.out _ _ ⟨trivial,fun _=>⟨(HXc.cell' k).trans (nt_ptr HK.1 HK.2),(HXc.cell' (4+k)).trans (nt_now HK.2),HX34.out _ HXc.out⟩⟩ ?_;clear hK K;refine ttq [] 13 ?_;exact tq76
 intro w1 HX1 HP1 HB1 gs w5 gr ix ef er HGR HGc HPO;go_upto_region 20 with fail;rcases HPO.out with⟨-,hne,hbn⟩|⟨p,hp,her,hre⟩
 ·have e3:(er !=0)=true:= by simpa using hne
  have HXn:=h_ (HX1.next hbn);have HPn:=h_ (HP1.next hbn);have HBn:Hid (Below Bs w w5):=HB1.trans (hbn.mono (Nat.le_trans HBS.out HB1.size));clear hbn;go_wp2_with fail;go_ret;exact⟨rfl,N,HXn.out,HPn.out,HLO.out,HIV.mono (Nat.le_succ i),Nat.le_add_right _ _,HBn.out⟩
 ·subst her;have hbd:=HIV.ok.bounds HK.1 HK.2;obtain⟨ef2,hen,hx9,hb9,haf⟩:=step_aft (N:=N) (i:=i) HX1.out HP1.out (Nat.le_trans HBS.out HB1.size) HLO.out HK.1 HK.2 HIL.1 HIL.2 (HIV.mono (Nat.le_succ i)) hre (prop_ok HIV.out HK.1 HK.2 hp) (((HIV.st k HK.1 HK.2).prop hp).endF.mono o_) (prop_few hp);injection hen with h7;rw[←h7]at haf;have HAF:=h_ haf;have HBn:Hid (Below Bs w w5):=HB1.trans hb9;have g0:=HGc.box.cell (j:=0) rfl;have g1:=HGc.box.cell (j:=1) rfl;have g2:=HGc.box.cell (j:=2) rfl;have g3:=HGc.box.cell (j:=3) rfl;have g4:=HGc.box.cell (j:=4) rfl;have g5:=HGc.box.cell (j:=5) rfl;clear hbd h7 hx9 hb9 haf hp hre;go_wp2_with(go_at_call 23;((with_reducible refine(HAF.out _ b_).mono ?_);rintro en w6 ⟨rfl,hr⟩;have HR:=h_ hr;clear hr g0 g1 g2 g3 g4 g5));go_ret;obtain⟨N',a1,a2,a3,a4,a5,a6⟩:=HR.out;exact⟨rfl,N',a1,a2,a3,a4,a5,HBn.trans a6⟩
end Go.Proofs.YtoeofkcpclfnhaaGreat
