import Derived.Test.YtoeofkcpclfnhaaGreatSr30
set_option linter.unusedVariables false
set_option linter.unusedSimpArgs false
namespace Go.Proofs.YtoeofkcpclfnhaaGreat
open Go.ChangeShapes Go.WideShapes Go.ChangeAt Go.RowKit
set_option maxRecDepth 100000
set_option maxHeartbeats 16000000
theorem tq77 {P:Prop}(h:P:=by
 clear hx hw;refine hK.out _ _ ⟨trivial,fun h=>absurd h d_⟩ ?_;clear hK K;refine ttq [] 23 ?_;refine sdq ?_;revert HPO;revert HGc;revert HGR;revert er;revert ef;revert ix;revert gr;revert w4;revert HB1;revert HP1;revert HX1;revert w1
 exact CUT.out):P:=h
theorem act_set{w:World}{X Bs i:Nat}{N:Nt}(hx:Bex w X (cellsNt N))(hp:NtP w X N)(hB:Bs≤ w.heap.size)(hlo:∀j,N.mut X j→Bs≤ j)(hinv:NetInv N i)(hi:i< 400)(hal:N.air.length≤ 300)(K nw:Int)(set:UInt8):
 Calls Tryz.prog 7 #[.pointer (some ⟨X,0,none⟩),.agg #[.int .i64 5,.int .i64 K,.int .i64 nw,Go.Proofs.YtoeofkcpclfnhaaGreat.B set]] w (RetAc w Bs X i N):=by
 have HBB:Hid (Below w.heap.size w (w.alloc (.cells #[.int .i64 5,.int .i64 K,.int .i64 nw,Go.Proofs.YtoeofkcpclfnhaaGreat.B set] 50))):=mid_alloc' b_;have HA0:Hid (Bex (w.alloc (.cells #[.int .i64 5,.int .i64 K,.int .i64 nw,Go.Proofs.YtoeofkcpclfnhaaGreat.B set] 50)) w.heap.size [.int .i64 5,.int .i64 K,.int .i64 nw,Go.Proofs.YtoeofkcpclfnhaaGreat.B set]):=Bex.new w [.int .i64 5,.int .i64 K,.int .i64 nw,Go.Proofs.YtoeofkcpclfnhaaGreat.B set] 50;have HX0:=h_ (hx.next HBB.out);have HP0:=h_ (hp.next HBB.out);have HLO:=h_ hlo;have HBS:=h_ hB;have HIV:=h_ hinv;have HIL:=h_ (And.intro hi hal);have HXW:=h_ hx.lt;have e1:=i64_and1023 K;obtain⟨r,hr,hr0,hr1⟩:∃r,K%1024= r∧0≤ r∧r< 1024:=⟨_,rfl,by omega,by omega⟩;rw[hr]at e1;obtain⟨k,hk,hk1,hk3⟩:∃k: Nat,1+r% 3=(k:Int)∧1≤ k∧k≤ 3:=⟨(1+r% 3).toNat,by omega,by omega,by omega⟩;have HK:=h_ (And.intro hk1 hk3);have e2:wrap64 (1+r.tmod 3)=(k:Int):=by rw[Int.tmod_eq_emod_of_nonneg hr0,IntWalk.wrap64_in _ o_];exact hk
 obtain⟨L,hL⟩:∃L,N.air.length=L:= ⟨_,rfl⟩;have HL:=h_ hL;have HX32:Hid (∀w',Bex w' X (cellsNt N)→w'.cell? ⟨X,32,none⟩=some (.slice N.aa L N.ac)):=fun w' h=>by rw[←HL.out];exact(h.cell' 32).trans rfl
 have ka0:=HA0.box.cell (j:=0) rfl;have ka1:=HA0.box.cell (j:=1) rfl;have ka2:=HA0.box.cell (j:=2) rfl;have ka3:=HA0.box.cell (j:=3) rfl;have kx:=HX32.out _ HX0.out;clear hx hp hB hlo hinv hi hal hr hr0 hr1 hk hk1 hk3 hL;go_enter Tryz.func7,Tryz.ntmps7;go_upto_if 27 with fail;rw[e2];go_cut [6]from 28 to 48 (fun v wx=>∃m: Int,v= .int .i64 m∧Hid (0<L→ 0≤m∧ m<L)∧Hid (Below (w.alloc (.cells #[.int .i64 5,.int .i64 K,.int .i64 nw,Go.Proofs.YtoeofkcpclfnhaaGreat.B set] 50)).heap.size (w.alloc (.cells #[.int .i64 5,.int .i64 K,.int .i64 nw,Go.Proofs.YtoeofkcpclfnhaaGreat.B set] 50)) wx))
 case first=>as_aux_lemma=>
  rcases Nat.eq_zero_or_pos L with h0|h0
  ·subst h0;go_wp2_with fail;go_meet;exact⟨0,rfl,(fun h=>absurd h (Nat.lt_irrefl 0)),Below.refl _ _⟩
  ·obtain⟨p1,p2,p3,p4⟩:=pick_lt K h0;have HPK:=h_ (And.intro p1 p2);have d0:decide (0<L)=true:= decide_eq_true h0;have d1:decide ((0:Int)<(L:Int))=true:= decide_eq_true o_;have d2:¬(L:Int)=0:= o_;have d3:¬L= 0:=o_;have HLB:Hid (L≤300):=by show _≤_;rw[←HL.out];exact HIL.2
   have f1:IntKind.i64.wrap (Int.tmod K L+L)=Int.tmod K L+L:= by have:=HLB.out;exact IntWalk.i64_in _ o_
   clear p1 p2 p3 p4 h0;go_upto_region 4 with fail;refine wrq (fun l w'=>(w'.cell? ⟨w.heap.size,1,none⟩=some (.int .i64 K)∧w'.cell? ⟨X,32,none⟩=some (.slice N.aa L N.ac))) ?_;obtain⟨w4,hwd⟩:∃y,y=World.drew (w.alloc (.cells #[.int .i64 5,.int .i64 K,.int .i64 nw,Go.Proofs.YtoeofkcpclfnhaaGreat.B set] 50)):=⟨_,rfl⟩;rw[←hwd];have hb:Below (w.alloc (.cells #[.int .i64 5,.int .i64 K,.int .i64 nw,Go.Proofs.YtoeofkcpclfnhaaGreat.B set] 50)).heap.size (w.alloc (.cells #[.int .i64 5,.int .i64 K,.int .i64 nw,Go.Proofs.YtoeofkcpclfnhaaGreat.B set] 50)) w4:=by rw[hwd];exact b_.drew
   clear hwd;have HB4:=h_ hb;clear hb;refine toS ⟨(HA0.next HB4.out).box.cell (j:=1) rfl,HX32.out _ (HX0.next HB4.out)⟩ ?_;refine tkq 0 ?_;refine tkq 1 ?_;refine tkq 2 ?_;refine tkq 3 ?_;refine tkq 4 ?_;refine tkq 5 ?_;refine tkq 6 ?_;refine tkq 7 ?_;refine tkq 8 ?_;refine tkq 9 ?_;refine tkq 10 ?_;refine tkq 11 ?_;refine tkq 12 ?_;refine tkq 13 ?_;refine tkq 14 ?_;refine tkq 15 ?_;refine tkq 16 ?_;refine tkq 17 ?_;refine tkq 18 ?_;refine tkq 19 ?_;refine tkq 20 ?_;refine sdq ?_;go_wp2_with fail;go_meet;exact⟨_,rfl,(fun _=>HPK.out),HB4⟩
 obtain⟨m,rfl,HM,HBx⟩:=hcut;have HBw:=h_ (HBB.trans (HBx.mono HBB.size));have HX:=h_ (HX0.next HBx.out);have HP:=h_ (HP0.next HBx.out);have HA:=h_ (HA0.next HBx.out);have HBc:Hid (Below Bs w wc):=HBw.mono HBS.out;have ka0:=HA.box.cell (j:=0) rfl;have HBS2:Hid (Bs≤wc.heap.size):=Nat.le_trans HBS.out HBw.size;go_upto_region 22 with fail;have i1:k< 4:=by have:=HK.2;omega
 have i2:(k:Int)<4:= o_;have i3:(0:Int)≤(k:Int):=o_;obtain⟨hgd,hsf,-⟩:=gd_of HIV.ok (by have:=HIL.1;omega) HK.1 HK.2 (HIV.st k HK.1 HK.2) (by have:=HIL.1;omega);have HGD:=h_ hgd;have hbd:=HIV.ok.bounds HK.1 HK.2;(try simp only at hbd);have HL39:Hid ((N.x k).n.es.length≤3999):=by show _≤_;have:=HIL.1;omega
 clear ka0 hgd hsf hbd;apply cut_here
 ·intro CUT;refine wrq (fun l w'=>(True)∧Till 15 l (w'.cell? ⟨X,k,none⟩=some (.pointer (some ⟨N.g k,0,none⟩))∧w'.cell? ⟨X,4+k,none⟩=some (.int .i64 (N.now k))∧w'.cell? ⟨w.heap.size,3,none⟩=some (Go.Proofs.YtoeofkcpclfnhaaGreat.B set))) ?_;obtain⟨w1,hwd⟩:∃y,y=World.drew wc:=⟨_,rfl⟩;rw[←hwd];have hb:Below wc.heap.size wc w1:=by rw[hwd];exact b_.drew
  clear hwd;have HX1:=h_ (HX.next hb);have HP1:=h_ (HP.next hb);have HB1:=h_ (HBc.trans (hb.mono HBS2.out));have HXc:=HX1;have HAc:=h_ (HA.next hb);have HBv:Hid (Below w1.heap.size w1 w1):=Below.refl _ _;clear hb;refine toS ⟨trivial,fun _=>⟨(HXc.cell' k).trans (nt_ptr HK.1 HK.2),(HXc.cell' (4+k)).trans (nt_now HK.2),HAc.box.cell (j:=3) rfl⟩⟩ ?_;refine ttq [] 0 ?_;refine ttq [] 1 ?_;refine ttq [] 2 ?_;refine ttq [] 3 ?_;refine ttq [] 4 ?_;refine ttq [15] 5 ?_;refine ttq [] 6 ?_;refine ttq [8,15] 7 ?_ (hy:=Or.inl ⟨by rfl,by(rintro w ⟨l,hD,hSw⟩;(try dsimp only at hSw);have hC0:=hSw.2 (hD 15 d_);replace hSw:=hSw.1;clear hD;go_simp;rfl)⟩);refine ttq [] 8 ?_;refine ttq [] 9 ?_;refine ttq [] 10 ?_;refine ttq [] 11 ?_;refine ttq [] 12 ?_;refine ttq [] 13 ?_;refine ttq [15] 14 ?_;refine s2q 15 20 (fun K hK=> ?_) (fun K hK=> ?_)
  ·go_simp;have hnd:NdAt (N.mut X) (fun j=>j= N.g k) w1 (N.g k) (N.x k) (N.e k):=(HP1.next HBv.out).nd k HK.1 HK.2;have hya:YAt (Un (N.mut X) (fun j=>j= N.g k)) w1 ((⟨0,1,0,set,[]⟩:WEnt),(none,0)):=⟨FRow.nil _ _ _,Nat.zero_le _,Nat.le_refl _,fun _=>rfl⟩;have hcall:Calls Tryz.prog 24 #[.pointer (some ⟨N.g k,0,none⟩),.agg #[.int .i64 0,.int .i8 1,.int .i64 0,Go.Proofs.YtoeofkcpclfnhaaGreat.B set,.slice none 0 0],.int .i64 (N.now k)] w1 (RetPp (N.mut X) (fun j=>j= N.g k) w1 (N.g k) (propG (N.x k).n (⟨0,1,0,set,[]⟩:WEnt))):=propose_nd hnd HGD.out (⟨0,1,0,set,[]⟩:WEnt) none 0 hya (.inl rfl) (N.now k) HL39.out;go_at_call 24
   with_reducible refine hcall.mono ?_
   intro en w2 hr;obtain⟨ix,ef,er,hen,hpo⟩:=PpO.of hr;subst hen;have HPO:=h_ (hpo.base HBv.out hnd.ot);obtain⟨wq,hwq⟩:∃q,q=w2:= ⟨_,rfl⟩;have HQB:Hid (Below wq.heap.size wq w2):=by rw[hwq];exact Below.refl _ _
   rw[←hwq]at HPO;have HWQ:Hid (w1.heap.size≤wq.heap.size):=by rw[hwq];exact Nat.le_trans HBv.size hpo.keep.size
   clear hwq;clear hr hpo hnd hya hcall HXc HBv HAc;refine hK.out _ _ ⟨trivial,fun h=>absurd h d_⟩ ?_;clear hK K;refine ttq [] 16 ?_;refine ttq [] 17 ?_;refine ttq [] 18 ?_;refine ttq [] 19 ?_;refine soq 20 (fun K hK=> ?_);go_simp;refine new_block ?_;intro w3 hxb hbb hsb;have HGc:=h_ hxb;obtain⟨gr,hgr⟩:∃q,q=w2.heap.size:= ⟨_,rfl⟩;rw[←hgr]at HGc ⊢;have HGR:Hid (wq.heap.size≤gr):=by show _≤_;have:=HQB.size;omega
   replace HQB:=h_ (HQB.trans (hbb.mono HQB.size));clear hxb hbb hsb hgr;refine hK.out _ _ ⟨trivial,fun h=>absurd h d_⟩ ?_;clear hK K;refine ttq [] 21 ?_;refine soq 22 (fun K hK=> ?_);rw[if_pos (by rfl)];refine op_store_bex layEf (.tmp 13) (.tmp 233) rfl gr ef _ rfl rfl HGc.out rfl ?_;intro w4 hx hw;replace HGc:=h_ hx;replace HPO:Hid (PpO (N.mut X) (fun j=>j= N.g k) w1 (N.g k) (propG (N.x k).n (⟨0,1,0,set,[]⟩:WEnt)) ef er w4):=HPO.next (HQB.trans (hw.below _ HGR.out));replace HGR:Hid (w1.heap.size≤gr):=Nat.le_trans HWQ.out HGR.out;clear HWQ HQB;exact tq77
  ·go_simp;refine new_block ?_;intro w2 hxb hbb hsb;have HGc:=h_ hxb;obtain⟨gr,hgr⟩:∃q,q=w1.heap.size:= ⟨_,rfl⟩;rw[←hgr]at HGc ⊢;have HGR:Hid (w1.heap.size≤gr):=by show _≤_;have:=HBv.size;omega
   replace HXc:=h_ (HXc.next hbb);replace HBv:=h_ (HBv.trans (hbb.mono HBv.size));replace HAc:=h_ (HAc.next hbb);clear hxb hbb hsb hgr;refine hK.out _ _ ⟨trivial,fun _=>⟨(HXc.cell' k).trans (nt_ptr HK.1 HK.2),(HXc.cell' (4+k)).trans (nt_now HK.2),HAc.box.cell (j:=3) rfl⟩⟩ ?_;clear hK K;refine soq 15 (fun K hK=> ?_);go_simp;have hnd:NdAt (fun j=>N.mut X j∨j= gr) (fun j=>j= N.g k) w2 (N.g k) (N.x k) (N.e k):=nd_own gr HP1.out HX1.lt HK.1 HK.2 HBv.out HGR.out HGc.lt;have hya:YAt (Un (fun j=>N.mut X j∨j= gr) (fun j=>j= N.g k)) w2 ((⟨0,1,0,set,[]⟩:WEnt),(none,0)):=⟨FRow.nil _ _ _,Nat.zero_le _,Nat.le_refl _,fun _=>rfl⟩;have hcall:Calls Tryz.prog 24 #[.pointer (some ⟨N.g k,0,none⟩),.agg #[.int .i64 0,.int .i8 1,.int .i64 0,Go.Proofs.YtoeofkcpclfnhaaGreat.B set,.slice none 0 0],.int .i64 (N.now k)] w2 (RetPp (fun j=>N.mut X j∨j= gr) (fun j=>j= N.g k) w2 (N.g k) (propG (N.x k).n (⟨0,1,0,set,[]⟩:WEnt))):=propose_nd hnd HGD.out (⟨0,1,0,set,[]⟩:WEnt) none 0 hya (.inl rfl) (N.now k) HL39.out;go_at_call 24
   with_reducible refine hcall.mono ?_
   intro en w3 hr;obtain⟨ix,ef,er,hen,hpo⟩:=PpO.of hr;subst hen;have HWA:Hid (Below w1.heap.size w1 w2):=HBv.out;replace HGc:=h_ (HGc.block (hpo.keep.block gr HGc.lt (fun h5=>by have:=HP1.nd k HK.1 HK.2|>.lt;have:=HGR.out;omega)));have HPO:=h_ hpo;clear hr hpo hnd hya hcall HXc HBv HAc;refine hK.out _ _ ⟨trivial,fun h=>absurd h d_⟩ ?_;clear hK K;refine ttq [] 16 ?_;refine ttq [] 17 ?_;refine ttq [] 18 ?_;refine ttq [] 19 ?_;refine ttq [] 21 ?_;refine soq 22 (fun K hK=> ?_);rw[if_pos (by rfl)];refine op_store_bex layEf (.tmp 13) (.tmp 233) rfl gr ef _ rfl rfl HGc.out rfl ?_;intro w4 hx hw;replace HGc:=h_ hx;replace HPO:Hid (PpO (N.mut X) (fun j=>j= N.g k) w1 (N.g k) (propG (N.x k).n (⟨0,1,0,set,[]⟩:WEnt)) ef er w4):=HPO.put hw (.inr rfl) (by have:=HP1.nd k HK.1 HK.2|>.lt;have:=HGR.out;omega) HWA.out HGR.out (fun _ h5=> .inl h5);clear HWA;exact tq77
 intro w1 HX1 HP1 HB1 w4 gr ix ef er HGR HGc HPO;go_upto_region 23 with fail;rcases HPO.out with⟨-,hne,hbn⟩|⟨p,hp,her,hre⟩
 ·have e3:(er !=0)=true:= by simpa using hne
  have HXn:=h_ (HX1.next hbn);have HPn:=h_ (HP1.next hbn);have HBn:Hid (Below Bs w w4):=HB1.trans (hbn.mono (Nat.le_trans HBS.out HB1.size));clear hbn;go_wp2_with fail;go_ret;exact⟨rfl,N,HXn.out,HPn.out,HLO.out,HIV.mono (Nat.le_succ i),Nat.le_add_right _ _,HBn.out⟩
 ·subst her;have hbd:=HIV.ok.bounds HK.1 HK.2;obtain⟨ef2,hen,hx9,hb9,haf⟩:=step_aft (N:=N) (i:=i) HX1.out HP1.out (Nat.le_trans HBS.out HB1.size) HLO.out HK.1 HK.2 HIL.1 HIL.2 (HIV.mono (Nat.le_succ i)) hre (prop_ok HIV.out HK.1 HK.2 hp) (((HIV.st k HK.1 HK.2).prop hp).endF.mono o_) (prop_few hp);injection hen with h7;rw[←h7]at haf;have HAF:=h_ haf;have HBn:Hid (Below Bs w w4):=HB1.trans hb9;have g0:=HGc.box.cell (j:=0) rfl;have g1:=HGc.box.cell (j:=1) rfl;have g2:=HGc.box.cell (j:=2) rfl;have g3:=HGc.box.cell (j:=3) rfl;have g4:=HGc.box.cell (j:=4) rfl;have g5:=HGc.box.cell (j:=5) rfl;clear hbd h7 hx9 hb9 haf hp hre;go_wp2_with(go_at_call 23;((with_reducible refine(HAF.out _ b_).mono ?_);rintro en w5 ⟨rfl,hr⟩;have HR:=h_ hr;clear hr g0 g1 g2 g3 g4 g5));go_ret;obtain⟨N',a1,a2,a3,a4,a5,a6⟩:=HR.out;exact⟨rfl,N',a1,a2,a3,a4,a5,HBn.trans a6⟩
end Go.Proofs.YtoeofkcpclfnhaaGreat
namespace Go.Proofs.YtoeofkcpclfnhaaGreat
open Go.ChangeShapes Go.WideShapes Go.ChangeAt Go.RowKit
set_option maxRecDepth 100000
open Raf (RN NetOk updN)
set_option maxHeartbeats 16000000
theorem size1_pn:(Tryz.prog.info? 25).map (·.size)=some 1:=k_
theorem nt_hd{N:Nt}{k:Nat}(h3:k≤ 3):(cellsNt N)[8+k* 3]? =some (.int .i64 (N.hT k))∧(cellsNt N)[8+k* 3+1]? =some (.int .i64 (N.hV k))∧(cellsNt N)[8+k* 3+2]? =some (.int .i64 (N.hB k)):=by
 rcases(by omega:k= 0∨k= 1∨k= 2∨k= 3)with rfl|rfl| rfl|rfl<;>exact ⟨rfl,rfl,rfl⟩
theorem nt_gset{N:Nt}{k gn:Nat}{x':Nd}{e':Ef}(h1:1≤ k)(h3:k≤ 3):(cellsNt N).set k (.pointer (some ⟨gn,0,none⟩))=cellsNt ({N with g:=upd N.g k gn,x:=upd N.x k x',e:=upd N.e k e'}:Nt):=by
 rcases(by omega:k= 1∨k= 2∨k= 3)with rfl|rfl| rfl<;>rfl
theorem new_gd{N:Nt}{i k:Nat}(h:NetInv N i)(hi:i≤ 900)(h1:1≤ k)(h3:k≤ 3):Gd (⟨(k:Int),7,1000,250,[5,7],N.hT k,N.hV k,N.hB k,ents (N.rs k),0,0,0,0,0,0,0,[]⟩:Raf.RN) (i+8)∧0≤ N.hV k∧0≤ N.hB k:=by
 obtain⟨hg,hs,hv⟩:=gd_of h.ok o_ h1 h3 (h.st k h1 h3) o_;obtain⟨e1,e2,e3,e4⟩:=h.kept k h1 h3;have hb:=(h.st k h1 h3).hB;rw[e1,e2,e3,e4];exact⟨⟨hg.ok,hg.lt,hg.len,by show(1:Int)≤(k:Int);omega,by show(k:Int)≤7;omega,(show(1:Int)≤1000 by decide),(show(1000:Int)≤1099511627776 by decide),(show(1:Int)≤250 by decide),(show(250:Int)≤1099511627776 by decide),(show 2≤64 by decide),hg.t0,hg.t1,Int.le_refl _,by show(0:Int)≤_;omega,Int.le_refl _,by show(0:Int)≤_;omega,Nat.zero_le _,fun q hq=>by (cases hq),by omega⟩,hv,by omega⟩
theorem new_inv{N:Nt}{i k gn:Nat}{x':Nd}{e':Ef}(h:NetInv N i)(h1:1≤ k)(h3:k≤ 3)(now:Int)(hx:x'.n= Raf.again (⟨(k:Int),7,1000,250,[5,7],N.hT k,N.hV k,N.hB k,ents (N.rs k),0,0,0,0,0,0,0,[]⟩:Raf.RN) now):NetInv ({N with g:=upd N.g k gn,x:=upd N.x k x',e:=upd N.e k e'}:Nt) (i+1):=by
 have hf:x'.n= Raf.newF (k:Int) 7 1000 250 [5,7] (N.hT k) (N.hV k) (N.hB k) (ents (N.rs k)) now:=hx;have hok:=new_ok h h1 h3 (h.kept k h1 h3) (h.st k h1 h3) now;have hnd:(fun j=>(upd N.x k x' j).n)=updN (fun j=>(N.x j).n) k (Raf.newF (k:Int) 7 1000 250 [5,7] (N.hT k) (N.hV k) (N.hB k) (ents (N.rs k)) now):=by
  funext j
  unfold upd updN
  split
  ·exact hf
  ·rfl
 obtain⟨e1,e2,e3,e4⟩:=h.kept k h1 h3;have hs:=self_of h h1 h3;have hst:=h.st k h1 h3;refine⟨?_,fun j j1 j3=> ?_,fun j j1 j3=> ?_,fun j j1 j3=> ?_,h.few,by have:=h.led;show N.led.length≤_;omega,by have:=h.don;show N.done.length≤_;omega⟩
 ·show NetOk (fun j=>(upd N.x k x' j).n) _ _ _ _ _
  rw[hnd];exact hok.mono (Nat.le_succ i) (Nat.le_succ i) (fun _ hm=>hm)
 ·show Stat (upd N.x k x' j).n _
  by_cases e5:j= k
  ·subst e5;rw[upd_same,hf,e1,e2,e3,e4];have h5:=hst.new now;rw[hs,hst.base,hst.elect,hst.pulse,hst.draws]at h5;exact h5.mono o_
  ·rw[upd_ne _ _ e5];exact(h.st j j1 j3).mono o_
 ·show N.hT j=(upd N.x k x' j).n.hT∧N.hV j=(upd N.x k x' j).n.hV∧N.hB j=(upd N.x k x' j).n.hB∧ents (N.rs j)=(upd N.x k x' j).n.es
  by_cases e5:j= k
  ·subst e5;rw[upd_same,hx];obtain⟨-,b1,b2,b3,b4,-⟩:=again_same (⟨(j:Int),7,1000,250,[5,7],N.hT j,N.hV j,N.hB j,ents (N.rs j),0,0,0,0,0,0,0,[]⟩:Raf.RN) now;exact⟨b1.symm,b2.symm,b3.symm,b4.symm⟩
  ·rw[upd_ne _ _ e5];exact h.kept j j1 j3
 ·have h5:=h.now j j1 j3;exact⟨h5.1,by show N.now j≤_;omega⟩
end Go.Proofs.YtoeofkcpclfnhaaGreat
namespace Go.Proofs.YtoeofkcpclfnhaaGreat
open Go.ChangeShapes Go.WideShapes Go.ChangeAt Go.RowKit
set_option maxRecDepth 100000
set_option maxHeartbeats 16000000
theorem act_new{w:World}{X Bs i:Nat}{N:Nt}(hx:Bex w X (cellsNt N))(hp:NtP w X N)(hB:Bs≤ w.heap.size)(hlo:∀j,N.mut X j→Bs≤ j)(hinv:NetInv N i)(hi:i< 400)(hal:N.air.length≤ 300)(K nw:Int)(set:UInt8):
 Calls Tryz.prog 7 #[.pointer (some ⟨X,0,none⟩),.agg #[.int .i64 6,.int .i64 K,.int .i64 nw,Go.Proofs.YtoeofkcpclfnhaaGreat.B set]] w (RetAc w Bs X i N):=by
 have HBB:Hid (Below w.heap.size w (w.alloc (.cells #[.int .i64 6,.int .i64 K,.int .i64 nw,Go.Proofs.YtoeofkcpclfnhaaGreat.B set] 50))):=mid_alloc' b_;have HA0:Hid (Bex (w.alloc (.cells #[.int .i64 6,.int .i64 K,.int .i64 nw,Go.Proofs.YtoeofkcpclfnhaaGreat.B set] 50)) w.heap.size [.int .i64 6,.int .i64 K,.int .i64 nw,Go.Proofs.YtoeofkcpclfnhaaGreat.B set]):=Bex.new w [.int .i64 6,.int .i64 K,.int .i64 nw,Go.Proofs.YtoeofkcpclfnhaaGreat.B set] 50;have HX0:=h_ (hx.next HBB.out);have HP0:=h_ (hp.next HBB.out);have HLO:=h_ hlo;have HBS:=h_ hB;have HIV:=h_ hinv;have HIL:=h_ (And.intro hi hal);have HXW:=h_ hx.lt;have e1:=i64_and1023 K;obtain⟨r,hr,hr0,hr1⟩:∃r,K%1024= r∧0≤ r∧r< 1024:=⟨_,rfl,by omega,by omega⟩;rw[hr]at e1;obtain⟨k,hk,hk1,hk3⟩:∃k: Nat,1+r% 3=(k:Int)∧1≤ k∧k≤ 3:=⟨(1+r% 3).toNat,by omega,by omega,by omega⟩;have HK:=h_ (And.intro hk1 hk3);have e2:wrap64 (1+r.tmod 3)=(k:Int):=by rw[Int.tmod_eq_emod_of_nonneg hr0,IntWalk.wrap64_in _ o_];exact hk
 obtain⟨L,hL⟩:∃L,N.air.length=L:= ⟨_,rfl⟩;have HL:=h_ hL;have HX32:Hid (∀w',Bex w' X (cellsNt N)→w'.cell? ⟨X,32,none⟩=some (.slice N.aa L N.ac)):=fun w' h=>by rw[←HL.out];exact(h.cell' 32).trans rfl
 have ka0:=HA0.box.cell (j:=0) rfl;have ka1:=HA0.box.cell (j:=1) rfl;have ka2:=HA0.box.cell (j:=2) rfl;have ka3:=HA0.box.cell (j:=3) rfl;have kx:=HX32.out _ HX0.out;clear hx hp hB hlo hinv hi hal hr hr0 hr1 hk hk1 hk3 hL;go_enter Tryz.func7,Tryz.ntmps7;go_upto_if 27 with fail;rw[e2];go_cut [6]from 28 to 48 (fun v wx=>∃m: Int,v= .int .i64 m∧Hid (0<L→ 0≤m∧ m<L)∧Hid (Below (w.alloc (.cells #[.int .i64 6,.int .i64 K,.int .i64 nw,Go.Proofs.YtoeofkcpclfnhaaGreat.B set] 50)).heap.size (w.alloc (.cells #[.int .i64 6,.int .i64 K,.int .i64 nw,Go.Proofs.YtoeofkcpclfnhaaGreat.B set] 50)) wx))
 case first=>as_aux_lemma=>
  rcases Nat.eq_zero_or_pos L with h0|h0
  ·subst h0;go_wp2_with fail;go_meet;exact⟨0,rfl,(fun h=>absurd h (Nat.lt_irrefl 0)),Below.refl _ _⟩
  ·obtain⟨p1,p2,p3,p4⟩:=pick_lt K h0;have HPK:=h_ (And.intro p1 p2);have d0:decide (0<L)=true:= decide_eq_true h0;have d1:decide ((0:Int)<(L:Int))=true:= decide_eq_true o_;have d2:¬(L:Int)=0:= o_;have d3:¬L= 0:=o_;have HLB:Hid (L≤300):=by show _≤_;rw[←HL.out];exact HIL.2
   have f1:IntKind.i64.wrap (Int.tmod K L+L)=Int.tmod K L+L:= by have:=HLB.out;exact IntWalk.i64_in _ o_
   clear p1 p2 p3 p4 h0;go_upto_region 4 with fail;refine wrq (fun l w'=>(w'.cell? ⟨w.heap.size,1,none⟩=some (.int .i64 K)∧w'.cell? ⟨X,32,none⟩=some (.slice N.aa L N.ac))) ?_;obtain⟨w4,hwd⟩:∃y,y=World.drew (w.alloc (.cells #[.int .i64 6,.int .i64 K,.int .i64 nw,Go.Proofs.YtoeofkcpclfnhaaGreat.B set] 50)):=⟨_,rfl⟩;rw[←hwd];have hb:Below (w.alloc (.cells #[.int .i64 6,.int .i64 K,.int .i64 nw,Go.Proofs.YtoeofkcpclfnhaaGreat.B set] 50)).heap.size (w.alloc (.cells #[.int .i64 6,.int .i64 K,.int .i64 nw,Go.Proofs.YtoeofkcpclfnhaaGreat.B set] 50)) w4:=by rw[hwd];exact b_.drew
   clear hwd;have HB4:=h_ hb;clear hb;refine toS ⟨(HA0.next HB4.out).box.cell (j:=1) rfl,HX32.out _ (HX0.next HB4.out)⟩ ?_;refine tkq 0 ?_;refine tkq 1 ?_;refine tkq 2 ?_;refine tkq 3 ?_;refine tkq 4 ?_;refine tkq 5 ?_;refine tkq 6 ?_;refine tkq 7 ?_;refine tkq 8 ?_;refine tkq 9 ?_;refine tkq 10 ?_;refine tkq 11 ?_;refine tkq 12 ?_;refine tkq 13 ?_;refine tkq 14 ?_;refine tkq 15 ?_;refine tkq 16 ?_;refine tkq 17 ?_;refine tkq 18 ?_;refine tkq 19 ?_;refine tkq 20 ?_;refine sdq ?_;go_wp2_with fail;go_meet;exact⟨_,rfl,(fun _=>HPK.out),HB4⟩
 obtain⟨m,rfl,HM,HBx⟩:=hcut;have HBw:=h_ (HBB.trans (HBx.mono HBB.size));have HX:=h_ (HX0.next HBx.out);have HP:=h_ (HP0.next HBx.out);have HA:=h_ (HA0.next HBx.out);have HBc:Hid (Below Bs w wc):=HBw.mono HBS.out;have ka0:=HA.box.cell (j:=0) rfl;have HBS2:Hid (Bs≤wc.heap.size):=Nat.le_trans HBS.out HBw.size;go_upto_region 25 with fail;have i1:k< 4:=by have:=HK.2;omega
 have i2:(k:Int)<4:= o_;have i3:(0:Int)≤(k:Int):=o_;obtain⟨hgd,hhv,hhb⟩:=new_gd HIV.out (by have:=HIL.1;omega) HK.1 HK.2;have HGD:=h_ hgd;have HHV:=h_ (And.intro hhv hhb);have hno:=HIV.now k HK.1 HK.2;have hil:=HIL.1;have HNO:Hid (0≤N.now k∧N.now k≤1099511627776):=⟨hno.1,by omega⟩;clear ka0 hgd hhv hhb hno hil;refine wrq (fun l w'=>(w'.cell? ⟨X,4+k,none⟩=some (.int .i64 (N.now k))∧w'.cell? ⟨X,8+k* 3,none⟩=some (.int .i64 (N.hT k))∧w'.cell? ⟨X,8+k* 3+1,none⟩=some (.int .i64 (N.hV k))∧w'.cell? ⟨X,8+k* 3+2,none⟩=some (.int .i64 (N.hB k))∧w'.cell? ⟨X,20+k* 3,none⟩=some (.int .i64 0)∧w'.cell? ⟨X,20+k* 3+1,none⟩=some (.int .i64 0)∧w'.cell? ⟨X,20+k* 3+2,none⟩=some (.slice (N.ra k) (N.rs k).length (N.rc k)))) ?_;obtain⟨w1,hwd⟩:∃y,y=World.drew wc:=⟨_,rfl⟩;rw[←hwd];have hb:Below wc.heap.size wc w1:=by rw[hwd];exact b_.drew
 clear hwd;have HX1:=h_ (HX.next hb);have HP1:=h_ (HP.next hb);have HB1:=h_ (HBc.trans (hb.mono HBS2.out));clear hb;refine toS ⟨(HX1.cell' _).trans (nt_now HK.2),(HX1.cell' _).trans (nt_hd HK.2).1,(HX1.cell' _).trans (nt_hd HK.2).2.1,(HX1.cell' _).trans (nt_hd HK.2).2.2,(HX1.cell' _).trans (nt_rw HK.2).1,(HX1.cell' _).trans (nt_rw HK.2).2.1,(HX1.cell' _).trans (nt_rw HK.2).2.2⟩ ?_;refine tkq 0 ?_;refine tkq 2 ?_;refine tkq 3 ?_;refine tkq 4 ?_;refine tkq 5 ?_;refine tkq 6 ?_;refine tkq 7 ?_;refine tkq 8 ?_;refine tkq 9 ?_;refine tkq 10 ?_;refine tkq 11 ?_;refine tkq 12 ?_;refine tkq 13 ?_;refine tkq 14 ?_;refine tkq 15 ?_;refine tkq 16 ?_;refine tkq 17 ?_;refine tkq 18 ?_;refine tkq 19 ?_;refine tkq 20 ?_;refine soq 1 (fun K hK=> ?_);go_simp;have hcall:=setup_any (k:Int) w1;go_at_call 6
 with_reducible refine hcall.mono ?_
 rintro en w2 ⟨gd,rfl,hgd,hxd,hb⟩;have HX2:=h_ (HX1.next hb);have HP2:=h_ (HP1.next hb);have HD2:=h_ hxd;have HB2:=h_ (HB1.trans (hb.mono (Nat.le_trans HBS.out HB1.size)));clear hcall hgd hxd hb;refine hK.out _ _ ⟨(HX2.cell' _).trans (nt_now HK.2),(HX2.cell' _).trans (nt_hd HK.2).1,(HX2.cell' _).trans (nt_hd HK.2).2.1,(HX2.cell' _).trans (nt_hd HK.2).2.2,(HX2.cell' _).trans (nt_rw HK.2).1,(HX2.cell' _).trans (nt_rw HK.2).2.1,(HX2.cell' _).trans (nt_rw HK.2).2.2⟩ ?_;clear hK K;refine soq 21 (fun K hK=> ?_);go_simp;have hcall:Calls Tryz.prog 5 #[.agg #[.int .i64 (k:Int),Go.Proofs.YtoeofkcpclfnhaaGreat.B 7,.int .i64 1000,.int .i64 250,.slice (some ⟨gd,0,none⟩) 2 2],.agg #[.int .i64 (N.hT k),.int .i64 (N.hV k),.int .i64 (N.hB k)],.agg #[.int .i64 0,.int .i64 0,.slice (N.ra k) (N.rs k).length (N.rc k)],.agg #[.int .i64 0,.int .i64 0,.int .u8 0,.slice none 0 0],.int .i64 (N.now k)] w2 (RetNw (N.mut X) w2 (Raf.again (⟨(k:Int),7,1000,250,[5,7],N.hT k,N.hV k,N.hB k,ents (N.rs k),0,0,0,0,0,0,0,[]⟩:Raf.RN) (N.now k))):=new_nd (N.mut X) (k:Int) 7 1000 250 [5,7] (some ⟨gd,0,none⟩) 2 (N.hT k) (N.hV k) (N.hB k) (N.rs k) (N.ra k) (N.rc k) (N.now k) (HP2.old HX2.lt) HGD.out d_ HHV.1 HHV.2 (Row.of_bex HD2.out) d_ (fun h5=>by cases h5) (HP2.rows k HK.2) HNO.1 HNO.2;go_at_call 5
 with_reducible refine hcall.mono ?_
 rintro en w3 ⟨gn,x',e',rfl,hgn,hxn,hnd,hb⟩;have HX3:=h_ (HX2.next hb);have HB3:=h_ (HB2.trans (hb.mono (Nat.le_trans HBS.out HB2.size)));have HPN:=h_ (HP2.fresh (k:=k) HX2.lt hb hgn hnd);have HXN:=h_ hxn;have HGN:Hid (Bs≤gn):=Nat.le_trans (Nat.le_trans HBS.out HB2.size) hgn;clear hcall hgn hxn hnd hb;refine hK.out _ _ ⟨(HX3.cell' _).trans (nt_now HK.2),(HX3.cell' _).trans (nt_hd HK.2).1,(HX3.cell' _).trans (nt_hd HK.2).2.1,(HX3.cell' _).trans (nt_hd HK.2).2.2,(HX3.cell' _).trans (nt_rw HK.2).1,(HX3.cell' _).trans (nt_rw HK.2).2.1,(HX3.cell' _).trans (nt_rw HK.2).2.2⟩ ?_;clear hK K;refine tkq 22 ?_;refine tkq 23 ?_;refine tkq 24 ?_;refine tkq 25 ?_;refine tkq 26 ?_;refine sdq ?_;have HINV:=h_ (fun e5=>new_inv (gn:=gn) (e':=e5) HIV.out HK.1 HK.2 (N.now k) HXN.out);go_upto_region 27 with((with_reducible refine at_store 25 (.tmp 277) (.tmp 274) ?_);refine wpList_field_bex rfl (.tmp 277) (.tmp 274) rfl size1_pn X k _ (.pointer (some ⟨gn,0,none⟩)) rfl rfl rfl rfl HX3.out (by have:=HK.2;show k<35;omega) ?_;intro w6 hx hw;have HX6:Hid (Bex w6 X (cellsNt ({N with g:=upd N.g k gn,x:=upd N.x k x',e:=upd N.e k e'}:Nt))):=(by rw[←nt_gset HK.1 HK.2];exact hx);have HW6:=h_ hw;clear hx hw);go_wp2_with fail;go_ret;refine⟨rfl,({N with g:=upd N.g k gn,x:=upd N.x k x',e:=upd N.e k e'}:Nt),HX6.out,HPN.wroteX HX3.lt HW6.out,?_,HINV.out _,Nat.le_add_right _ _,HB3.trans (HW6.below _ (HLO X (.inl rfl)))⟩;intro j h5;rcases h5 with h5|⟨j2,h6,h7,h5⟩|h5| h5|h5
 ·exact HLO.out j (.inl h5)
 ·by_cases e:j2= k
  ·subst e;have h8:j= upd N.g j2 gn j2:=h5;rw[upd_same]at h8;have:=HGN.out;omega
  ·have h8:j= upd N.g k gn j2:=h5;rw[upd_ne _ _ e]at h8;exact HLO.out j (.inr (.inl ⟨j2,h6,h7,h8⟩))
 ·exact HLO.out j (.inr (.inr (.inl h5)))
 ·exact HLO.out j (.inr (.inr (.inr (.inl h5))))
 ·exact HLO.out j (.inr (.inr (.inr (.inr h5))))
theorem act_nd{w:World}{X Bs i:Nat}{N:Nt}(hx:Bex w X (cellsNt N))(hp:NtP w X N)(hB:Bs≤ w.heap.size)(hlo:∀j,N.mut X j→Bs≤ j)(hinv:NetInv N i)(hi:i< 400)(hal:N.air.length≤ 300)(do_ K nw:Int)(set:UInt8):
 Calls Tryz.prog 7 #[.pointer (some ⟨X,0,none⟩),.agg #[.int .i64 do_,.int .i64 K,.int .i64 nw,B set]] w (RetAc w Bs X i N):=by
 by_cases h0:do_= 0
 ·subst h0;exact act_tick hx hp hB hlo hinv hi hal K nw set
 by_cases h4:do_= 4
 ·subst h4;exact act_cmd hx hp hB hlo hinv hi hal K nw set
 by_cases h5:do_= 5
 ·subst h5;exact act_set hx hp hB hlo hinv hi hal K nw set
 by_cases h6:do_= 6
 ·subst h6;exact act_new hx hp hB hlo hinv hi hal K nw set
 by_cases hn:do_< 1∨3< do_∨N.air.length= 0
 ·exact act_none hx hp hB hlo hinv hi hal do_ K nw set h0 h4 h5 h6 hn
 have ha:0< N.air.length:=o_;rcases(by omega:do_= 1∨do_= 2∨do_= 3)with h|h| h
 ·subst h;exact act_hear hx hp hB hlo hinv hi hal K nw set ha
 ·subst h;exact act_lose hx hp hB hlo hinv hi hal K nw set ha
 ·subst h;exact act_double hx hp hB hlo hinv hi hal K nw set ha
end Go.Proofs.YtoeofkcpclfnhaaGreat
namespace Go.Proofs.YtoeofkcpclfnhaaGreat
open Go.ChangeShapes Go.WideShapes Go.ChangeAt Go.RowKit
set_option maxRecDepth 100000
open Raf (RN NetOk)
set_option maxHeartbeats 16000000
def nwZ(j:Nat):RN:= Raf.newF (j:Int) 7 1000 250 [5,7] 0 0 0 [] 0
def ptr0(gs:Nat→ Nat)(k j:Nat):Value:= if j<k then .pointer (some ⟨gs j,0,none⟩)else .pointer none
abbrev cells0(gs:Nat→ Nat)(k:Nat):List Value:=[.pointer none,ptr0 gs k 1,ptr0 gs k 2,ptr0 gs k 3,
 .int .i64 0,.int .i64 0,.int .i64 0,.int .i64 0,
 .int .i64 0,.int .i64 0,.int .i64 0,.int .i64 0,.int .i64 0,.int .i64 0,.int .i64 0,.int .i64 0,.int .i64 0,.int .i64 0,.int .i64 0,.int .i64 0,
 .int .i64 0,.int .i64 0,.slice none 0 0,.int .i64 0,.int .i64 0,.slice none 0 0,.int .i64 0,.int .i64 0,.slice none 0 0,.int .i64 0,.int .i64 0,.slice none 0 0,
 .slice none 0 0,.slice none 0 0,.slice none 0 0]
theorem cells0_set{gs:Nat→ Nat}{k gn:Nat}(h1:1≤ k)(h3:k≤ 3):(cells0 gs k).set k (.pointer (some ⟨gn,0,none⟩))=cells0 (upd gs k gn) (k+1):=by
 rcases(by omega:k= 1∨k= 2∨k= 3)with rfl|rfl| rfl<;>rfl
def preM(X:Nat)(gs:Nat→ Nat)(k:Nat):Nat→ Prop:=fun q=>q= X∨∃i,1≤i∧ i<k∧ q=gs i
structure Pre(w0 w:World)(X k:Nat)(gs:Nat→ Nat)(xs:Nat→ Nd)(es:Nat→ Ef):Prop where
 bex:Bex w X (cells0 gs k)
 nd:∀j,1≤j→ j<k→ NdAt (preM X gs k) (fun q=>q= gs j) w (gs j) (xs j) (es j)
 gne:∀i j,1≤i→ i<k→ 1≤j→ j<k→ gs i=gs j→i= j
 gX:∀j,1≤j→ j<k→ gs j≠X
 n:∀j,(xs j).n=nwZ j
 lo:∀q,preM X gs k q→w0.heap.size≤ q
 be:Below w0.heap.size w0 w
theorem Pre.old{w0 w:World}{X k:Nat}{gs:Nat→ Nat}{xs:Nat→ Nd}{es:Nat→ Ef}(h:Pre w0 w X k gs xs es):Old (preM X gs k) w:=fun q h5=>by
 rcases h5 with h5|⟨i,h6,h7,h5⟩
 ·rw[h5];exact h.bex.lt
 ·rw[h5];exact(h.nd i h6 h7).lt
theorem Pre.next{w0 w w':World}{X k:Nat}{gs:Nat→ Nat}{xs:Nat→ Nd}{es:Nat→ Ef}(h:Pre w0 w X k gs xs es)(hb:Below w.heap.size w w'):Pre w0 w' X k gs xs es:=
 ⟨h.bex.next hb,fun j h1 h3=>(h.nd j h1 h3).next hb,h.gne,h.gX,h.n,h.lo,h.be.trans (hb.mono h.be.size)⟩
theorem Pre.add{w0 w w1 w2:World}{X k gn:Nat}{gs:Nat→ Nat}{xs:Nat→ Nd}{es:Nat→ Ef}{x':Nd}{e':Ef}(h:Pre w0 w X k gs xs es)(h1:1≤ k)(h3:k≤ 3)(hb:Below w.heap.size w w1)(hg:w.heap.size≤ gn)(hn:NdAt (preM X gs k) (fun q=>q= gn) w1 gn x' e')(hx:x'.n= nwZ k)(hw:Wrote X w1 w2)(hbx:Bex w2 X ((cells0 gs k).set k (.pointer (some ⟨gn,0,none⟩)))):Pre w0 w2 X (k+1) (upd gs k gn) (upd xs k x') (upd es k e'):=by
 have hXl:=h.bex.lt;have hM:∀q,preM X (upd gs k gn) (k+1) q→preM X gs k q∨q= gn:=fun q h5=>by
  rcases h5 with h5|⟨i,h6,h7,h5⟩
  ·exact .inl (.inl h5)
  ·by_cases e:i= k
   ·rw[e,upd_same]at h5;exact .inr h5
   ·rw[upd_ne _ _ e]at h5;exact .inl (.inr ⟨i,h6,by omega,h5⟩)
 have hO:Old (preM X (upd gs k gn) (k+1)) w1:=fun q h5=>by
  rcases hM q h5 with h6|h6
  ·exact Nat.lt_of_lt_of_le (h.old q h6) hb.size
  ·rw[h6];exact hn.lt
 have hU:∀q,Un (preM X (upd gs k gn) (k+1)) (fun q=>q= gn) q→Un (preM X gs k) (fun q=>q= gn) q:=fun q h5=>h5.elim (fun h6=>hM q h6) .inr
 rw[cells0_set h1 h3]at hbx;have hgl:∀j,1≤j→ j<k→ gs j<w.heap.size:= fun j h5 h6=>(h.nd j h5 h6).lt
 refine⟨hbx,fun j j1 j3=> ?_,fun i j i1 i3 j1 j3 h5=> ?_,fun j j1 j3=> ?_,fun j=> ?_,fun q h5=> ?_,(h.be.trans (hb.mono h.be.size)).trans (hw.below _ (h.lo X (.inl rfl)))⟩
 ·by_cases e:j= k
  ·subst e;rw[upd_same,upd_same,upd_same];exact(⟨hn.bex,hn.tg,hO,hn.ot,hn.dr.mono hU,hn.drc,hn.ent.mono hU,hn.eq,hn.pr.mono hU,hn.prc,hn.prn⟩:NdAt (preM X (upd gs j gn) (j+1)) (fun q=>q= gn) w1 gn x' e').far hw (.inl rfl) o_
  ·rw[upd_ne _ _ e,upd_ne _ _ e,upd_ne _ _ e];exact((h.nd j j1 o_).both ((h.nd j j1 o_).next hb) (fun q h5=>(hM q h5).imp id (fun h6=>by omega)) hO).far hw (.inl rfl) (h.gX j j1 o_)
 ·by_cases e:i= k
  ·by_cases e2:j= k
   ·omega
   ·rw[e,upd_same,upd_ne _ _ e2]at h5;have:=hgl j j1 o_;omega
  ·by_cases e2:j= k
   ·rw[e2,upd_same,upd_ne _ _ e]at h5;have:=hgl i i1 o_;omega
   ·rw[upd_ne _ _ e,upd_ne _ _ e2]at h5;exact h.gne i j i1 o_ j1 o_ h5
 ·by_cases e:j= k
  ·rw[e,upd_same];omega
  ·rw[upd_ne _ _ e];exact h.gX j j1 o_
 ·by_cases e:j= k
  ·rw[e,upd_same];exact hx
  ·rw[upd_ne _ _ e];exact h.n j
 ·rcases hM q h5 with h6|h6
  ·exact h.lo q h6
  ·have:=h.be.size;omega
theorem nwZ_stat(k:Nat):Stat (nwZ k) 8:=⟨rfl,rfl,rfl,rfl,rfl,(by decide:(0:Int)≤0+ 1),(by decide:(0:Int)+1≤ (8:Nat)),Nat.zero_le _,fun q hq=>by cases hq⟩
def net0N(gs:Nat→ Nat)(xs:Nat→ Nd)(es:Nat→ Ef):Nt:= ⟨gs,xs,es,fun _=>0,fun _=>0,fun _=>0,fun _=>0,fun _=>[],fun _=>none,fun _=>0,[],none,0,[],none,0,[],none,0⟩
theorem Pre.net{w0 w:World}{X:Nat}{gs:Nat→ Nat}{xs:Nat→ Nd}{es:Nat→ Ef}(h:Pre w0 w X 4 gs xs es):Bex w X (cellsNt (net0N gs xs es))∧NtP w X (net0N gs xs es)∧(∀j,(net0N gs xs es).mut X j→w0.heap.size≤ j)∧NetInv (net0N gs xs es) 0:=by
 have hM:∀q,(net0N gs xs es).mut X q→preM X gs 4 q:=fun q h5=>by
  rcases h5 with h5|⟨j,h6,h7,h5⟩|h5| h5|h5
  ·exact .inl h5
  ·exact .inr ⟨j,h6,by omega,h5⟩
  ·cases h5
  ·cases h5
  ·cases h5
 refine⟨h.bex,⟨fun k k1 k3=>(h.nd k k1 o_).sub hM (fun _ h5=>h5) rfl,fun j k j1 j3 k1 k3 h5=>h.gne j k j1 o_ k1 o_ h5,fun k k1 k3=>h.gX k k1 o_,fun k _=> .zero _ _,.nil _ _ _,fun m hm=>(by cases hm),.nil _ _ _,.nil _ _ _,fun y hy=>(by cases hy),fun k h5=>(by cases h5),fun k h5=>(by cases h5),fun k h5=>(by cases h5)⟩,fun j h5=>h.lo j (hM j h5),⟨?_,fun k k1 k3=> ?_,fun k k1 k3=> ?_,fun k k1 k3=>⟨Int.le_refl _,by show(0:Int)≤3000* ((0:Nat):Int);omega⟩,fun m hm=>(by cases hm),Nat.zero_le _,Nat.zero_le _⟩⟩
 ·have h5:(fun k=>((net0N gs xs es).x k).n)=fun k:Nat=> Raf.newF (k:Int) 7 1000 250 [5,7] 0 0 0 [] 0:=funext h.n
  rw[h5];exact Raf.net0 1000 250 [5,7] 0
 ·show Stat (xs k).n _
  rw[h.n k];exact nwZ_stat k
 ·show(0:Int)=(xs k).n.hT∧(0:Int)=(xs k).n.hV∧(0:Int)=(xs k).n.hB∧ents []=(xs k).n.es
  rw[h.n k];exact⟨rfl,rfl,rfl,rfl⟩
end Go.Proofs.YtoeofkcpclfnhaaGreat
namespace Go.Proofs.YtoeofkcpclfnhaaGreat
open Go.ChangeShapes Go.WideShapes Go.ChangeAt Go.RowKit
set_option maxRecDepth 100000
set_option maxHeartbeats 16000000
theorem air_some{w:World}{X:Nat}{N:Nt}(hp:NtP w X N)(hl:0< N.air.length):∃b o,N.aa=some ⟨b,o,none⟩:=by
 rcases hp.air.row with h|⟨b,o,h,-⟩
 ·have h2:=congrArg List.length h;have h3:=hp.air.1;rw[h2]at h3;simp only[List.length_nil]at h3;omega
 ·exact⟨b,o,h⟩
theorem air_drop{w w':World}{X i:Nat}{N:Nt}(hx:Bex w X (cellsNt N))(hp:NtP w X N)(hinv:NetInv N i)(hl:300< N.air.length){b o:Nat}(ha:N.aa= some ⟨b,o,none⟩)(hw:Wrote X w w')(hbx:Bex w' X ((cellsNt N).set 32 (.slice (some ⟨b,o+200* 14,none⟩) (N.air.length-200) (N.ac-200)))):∃N': Nt,Bex w' X (cellsNt N')∧NtP w' X N'∧(∀j,N'.mut X j→N.mut X j)∧NetInv N' i∧N'.air.length= N.air.length-200:= by
 have hp':=hp.wroteX hx.lt hw;have hb:blkOf N.aa=some b:=by rw[ha];rfl
 obtain⟨N',hN'⟩:∃N': Nt,N'={N with air:=N.air.drop 200,aa:=some ⟨b,o+200* 14,none⟩,ac:=N.ac- 200}:=⟨_,rfl⟩;have hM:N'.mut X=N.mut X:=by
  subst hN';unfold Nt.mut;rw[hb];rfl
 have hsub:∀m∈ N.air.drop 200,m∈N.air:= fun m hm=>List.mem_of_mem_drop hm
 have hln:(N.air.drop 200).length=N.air.length- 200:=List.length_drop;refine⟨N',?_,?_,fun j h5=>by rw[hM]at h5;exact h5,?_,by rw[hN'];exact hln⟩
 ·rw[←hln]at hbx;rw[hN'];exact hbx
 ·have hair:=hp'.air;rw[ha]at hair;have h6:=hair.drop 200 o_;rw[←hln,flatMap_drop (cells:=cellsMs) (size:=14) (fun _=>rfl)]at h6;have hsa:=hp'.sa b hb;refine⟨fun k k1 k3=> ?_,?_,?_,fun k k3=> ?_,?_,fun m hm=> ?_,?_,?_,fun y hy=> ?_,fun k h5=> ?_,?_,?_⟩
  ·rw[hM,hN'];exact hp'.nd k k1 k3
  ·rw[hN'];exact hp'.gne
  ·rw[hN'];exact hp'.gX
  ·rw[hM,hN'];exact hp'.rows k k3
  ·rw[hN'];exact h6
  ·rw[hM];rw[hN']at hm;exact hp'.msgs m (hsub m hm)
  ·rw[hN'];exact hp'.led
  ·rw[hN'];exact hp'.don
  ·rw[hM];rw[hN']at hy;exact hp'.dones y hy
  ·rw[hN']at h5 ⊢;have h7:b= k:=by
    have h8:some b=some k:=h5;exact Option.some.inj h8
   subst h7;exact hsa
  ·rw[hN'];exact hp'.sl
  ·rw[hN'];exact hp'.sd
 ·rw[hN']
  exact⟨hinv.ok.mono n_ n_ (fun m hm=>by
   obtain⟨y,hy,rfl⟩:=List.mem_map.1 hm
   exact List.mem_map_of_mem (hsub y hy)),hinv.st,hinv.kept,hinv.now,fun m hm=>hinv.few m (hsub m hm),hinv.led,hinv.don⟩
def wkA:Raf.RN:= ⟨1,7,1000,250,[5,7],0,0,0,[],0,0,0,1005,0,1,0,[]⟩
def wkC:Raf.RN:= ⟨1,7,1000,250,[5,7],1,1,0,[],0,1,0,2012,0,2,1,[]⟩
def wkM:WMsg:= ⟨2,2,1,1,0,0,0,true,[],0,0,0,[],[]⟩
def wkO:Raf.RN:= ⟨1,1,1000,250,[],0,0,0,[],0,0,0,1000,0,0,0,[]⟩
theorem wk_a:Raf.again ⟨1,7,1000,250,[5,7],0,0,0,ents [],0,0,0,0,0,0,0,[]⟩ 0=wkA:= k_
theorem wk_o:Raf.again ⟨1,1,1000,250,[],0,0,0,ents [],0,0,0,0,0,0,0,[]⟩ 0=wkO:= k_
theorem wk_b:tickG wkA 1004=(wkA,[])∧Raf.endF wkA=wkA:= ⟨by kernel_rfl,by kernel_rfl⟩
theorem wk_c:(tickG wkA 1005).1=wkC∧ Raf.endF wkC=wkC∧ (tickG wkA 1005).2.length=2:= ⟨by kernel_rfl,by kernel_rfl,by kernel_rfl⟩
theorem wk_d:(Raf.endF (hearG wkC wkM 1100).1).role=2∧ (hearG wkC wkM 1100).2.map (fun m=>m.kind)=[3,3]∧okR 0 0 (hearG wkC wkM 1100).1.es=true∧ (hearG wkC wkM 1100).1.es.length=1∧ (hearG wkC wkM 1100).1.self=1∧ (Raf.endF (hearG wkC wkM 1100).1).hT=1:= ⟨by kernel_rfl,by kernel_rfl,by kernel_rfl,by kernel_rfl,by kernel_rfl,by kernel_rfl⟩
theorem wk_p:(Raf.endF (tickG wkO 1000).1).role=2∧ (Raf.endF (tickG wkO 1000).1).com=1∧ okR 0 0 (tickG wkO 1000).1.es=true∧ (tickG wkO 1000).1.es.length=1:= ⟨by kernel_rfl,by kernel_rfl,by kernel_rfl,by kernel_rfl⟩
theorem wk_y:(Raf.riseF wkC 1).role=1∧ (1:Int)=(Raf.riseF wkC 1).hT∧Raf.majB (Raf.latS (Raf.riseF wkC 1).base (Raf.riseF wkC 1).es).1.toNat ((Raf.riseF wkC 1).yes ||| Raf.bitOf 2).toNat=true:= ⟨by kernel_rfl,by kernel_rfl,by kernel_rfl⟩
theorem wk_ga:Gd wkA 20:=⟨by decide,by decide,by decide,by decide,by decide,by decide,by decide,by decide,by decide,by decide,by decide,by decide,by decide,by decide,by decide,by decide,by decide,fun q hq=>by (cases hq),by decide⟩
theorem wk_gc:Gd wkC 20:=⟨by decide,by decide,by decide,by decide,by decide,by decide,by decide,by decide,by decide,by decide,by decide,by decide,by decide,by decide,by decide,by decide,by decide,fun q hq=>by (cases hq),by decide⟩
theorem wk_go:Gd wkO 20:=⟨by decide,by decide,by decide,by decide,by decide,by decide,by decide,by decide,by decide,by decide,by decide,by decide,by decide,by decide,by decide,by decide,by decide,fun q hq=>by (cases hq),by decide⟩
structure Wk(w0 w:World)(T:Nat→ Prop)(g ga:Nat)(n m:Raf.RN)(bs:List (Nat×List Value)):Prop where
 ex:∃x y e ey,x.n=n∧ y.n=m∧ NdAt (fun k=>k= ga) T w g x e∧NdAt T (fun k=>k= ga) w ga y ey
 lo:∀k,T k→w0.heap.size≤ k
 la:w0.heap.size≤ ga
 ne:¬T ga
 be:Below w0.heap.size w0 w
 bs:∀b∈ bs,Bex w b.1 b.2∧¬T b.1∧b.1≠ ga
theorem wk_made{w0 w1 w2:World}{g ga:Nat}{n m:Raf.RN}{x y:Nd}{e ey:Ef}(hb0:Below w0.heap.size w0 w1)(hg:w0.heap.size≤ g)(hx:x.n= n)(h:NdAt (fun _=>False) (fun k=>k= g) w1 g x e)(hb:Below w1.heap.size w1 w2)(hga:w1.heap.size≤ ga)(hy:y.n= m)(h2:NdAt (fun k=>k= g) (fun k=>k= ga) w2 ga y ey):Wk w0 w2 (fun k=>k= g) g ga n m []:=
 ⟨⟨x,y,e,ey,hx,hy,h.both (h.next hb) (fun k h5=> .inr (by rw[h5];exact hga)) (fun k h5=>by rw[h5];exact h2.lt),h2⟩,fun k h5=>by rw[h5];exact hg,Nat.le_trans hb0.size hga,fun h5=>by have h6:ga= g:=h5;have:=h.lt;omega,hb0.trans (hb.mono hb0.size),fun b hb=>by cases hb⟩
section
variable {w0 w w':World} {T:Nat→ Prop} {g ga:Nat} {n m:Raf.RN} {bs:List (Nat×List Value)}
theorem Wk.next(h:Wk w0 w T g ga n m bs)(hb:Below w.heap.size w w'):Wk w0 w' T g ga n m bs:=by
 obtain⟨x,y,e,ey,h1,h2,h3,h4⟩:=h.ex;exact⟨⟨x,y,e,ey,h1,h2,h3.next hb,h4.next hb⟩,h.lo,h.la,h.ne,h.be.trans (hb.mono h.be.size),fun b h5=>⟨(h.bs b h5).1.next hb,(h.bs b h5).2⟩⟩
theorem Wk.var(h:Wk w0 w T g ga n m bs)(hb:Below w.heap.size w w'){cs:List Value}(hx:Bex w' w.heap.size cs):Wk w0 w' T g ga n m ((w.heap.size,cs)::bs):=by
 have h1:=h.next hb;obtain⟨x,y,e,ey,-,-,h3,h4⟩:=h.ex;refine⟨h1.ex,h1.lo,h1.la,h1.ne,h1.be,fun b h5=> ?_⟩;rcases List.mem_cons.1 h5 with h6|h6
 ·rw[h6];exact⟨hx,fun h7=>Nat.lt_irrefl _ (h3.ot _ h7),fun h7=>Nat.lt_irrefl _ (Nat.lt_of_lt_of_eq h4.lt h7)⟩
 ·exact h1.bs b h6
def RetWk(w0:World)(g ga:Nat)(n m:Raf.RN)(bs:List (Nat×List Value))(Ψ:Ef→ Prop)(ms:List WMsg)(en:Ending)(w':World):Prop:= ∃(T':Nat→ Prop) (r:Ef),en= .returned (.agg (cellsEf r).toArray)∧Wk w0 w' T' g ga n m bs∧Ψ r∧r.sl.map Ms.m=ms∧ Row w' r.sa (r.sl.flatMap cellsMs)∧(∀k,blkOf r.sa=some k→k≠ ga∧k< w'.heap.size)
theorem Wk.ret(h:Wk w0 w T g ga n m bs){n1 n2:Raf.RN}{ms:List WMsg}{Φ:Nat→ Prop}{en:Ending}(hr:RetEfX (fun k=>k= ga) T w g n1 ms (HdX Φ n n1) en w')(hn:Raf.endF n1=n2):RetWk w0 g ga n2 m bs (HdX Φ n n1) ms en w':=by
 obtain⟨x,y,e,ey,h1,h2,h3,h4⟩:=h.ex;obtain⟨r,hen,hψ,T',x',e',r2,hen2,hst,hx',hnd,hm,hrow,hin,-,-,-⟩:=hr;have hcs:cellsEf r=cellsEf r2:=by
  rw[hen]at hen2;injection hen2 with h5;injection h5 with h5;exact congrArg Array.toList h5
 have hne:¬T' ga:=fun h5=>h.ne (hst.new _ h4.lt h5)
 have hk:NdAt T (fun k=>k= ga) w' ga y ey:=by
  have hT:∀k,T k→Un T (fun k=>k= ga) k:=fun _ h5=> .inl h5
  have hn:∀k,k<w.heap.size→ Un T (fun k=>k= ga) k→Un T (fun k=>k= ga) k:=fun _ _ h5=>h5
  exact⟨h4.bex.block (hst.keep.block _ h4.lt h.ne),h4.tg,h4.os.le hst.keep.size,h4.ot.le hst.keep.size,h4.dr.step hst.keep hT hn,h4.drc,h4.ent.step hst.keep hT hn,h4.eq,h4.pr.step hst.keep hT hn,h4.prc,h4.prn⟩
 refine⟨T',r2,hen2,⟨⟨x',y,e',ey,hx'.trans hn,h2,hnd,h4.both hk (fun k h5=> ?_) hnd.ot⟩,fun k h5=> ?_,h.la,hne,⟨hst.keep.os.trans h.be.os,hst.keep.tape.trans h.be.tape,hst.keep.output.trans h.be.output,Nat.le_trans h.be.size hst.keep.size,fun k h5=>(hst.keep.block k (Nat.lt_of_lt_of_le h5 h.be.size) (fun h6=>Nat.lt_irrefl _ (Nat.lt_of_lt_of_le h5 (h.lo k h6)))).trans (h.be.block k h5)⟩,fun b h5=> ?_⟩,?_,hm,hrow,fun k h5=>⟨fun h6=>(hin k h5).2 h6,hnd.ot k (hin k h5).1⟩⟩
 ·by_cases h6:k< w.heap.size
  ·exact .inl (hst.new k h6 h5)
  ·exact .inr o_
 ·by_cases h6:k< w.heap.size
  ·exact h.lo k (hst.new k h6 h5)
  ·have:=h.be.size;omega
 ·obtain⟨b1,b2,b3⟩:=h.bs b h5;exact⟨b1.block (hst.keep.block _ b1.lt b2),fun h6=>b2 (hst.new _ b1.lt h6),b3⟩
 ·simp only[cellsEf,List.cons.injEq,Value.bool.injEq,Value.slice.injEq]at hcs;obtain⟨q1,-,⟨-,q2,-⟩,-⟩:=hcs;exact⟨q2▸hψ.1,q1▸hψ.2⟩
def RetWo(w0:World)(g ga:Nat)(n m:Raf.RN)(bs:List (Nat×List Value))(rows:List (Option Addr×List Value))(en:Ending)(w':World):Prop:= ∃v,en= .returned v∧(∃x y e ey S T S2 T2,x.n=n∧ y.n=m∧ NdAt S T w' g x e∧NdAt S2 T2 w' ga y ey)∧Below w0.heap.size w0 w'∧(∀b∈ bs,Bex w' b.1 b.2)∧∀r∈ rows,Row w' r.1 r.2
theorem Wk.other(h:Wk w0 w T g ga n m bs){x y:Nd}{e ey:Ef}(h1:x.n= n)(h3:NdAt (fun k=>k= ga) T w g x e)(h4:NdAt T (fun k=>k= ga) w ga y ey){n1 n2:Raf.RN}{ms:List WMsg}{en:Ending}{rows:List (Option Addr×List Value)}(hrow:∀r∈ rows,Row w r.1 r.2∧∀k,blkOf r.1=some k→k≠ ga∧k< w.heap.size)(hr:RetEf T (fun k=>k= ga) w ga n1 ms en w')(hn:Raf.endF n1=n2):RetWo w0 g ga n n2 bs rows en w':=by
 obtain⟨T',x',e',r,hen,hst,hx',hnd,-⟩:=hr;have hg:g≠ ga:=fun h5=>h.ne (h5▸h3.tg)
 refine⟨_,hen,⟨x,x',e,e',_,_,_,_,h1,hx'.trans hn,h3.kept hst.keep rfl hg,hnd⟩,⟨hst.keep.os.trans h.be.os,hst.keep.tape.trans h.be.tape,hst.keep.output.trans h.be.output,Nat.le_trans h.be.size hst.keep.size,fun k h5=>(hst.keep.block k (Nat.lt_of_lt_of_le h5 h.be.size) (fun h6=>by have:=h.la;omega)).trans (h.be.block k h5)⟩,fun b h5=> ?_,fun q h5=> ?_⟩
 ·obtain⟨b1,b2,b3⟩:=h.bs b h5;exact b1.block (hst.keep.block _ b1.lt b3)
 ·obtain⟨q1,q2⟩:=hrow q h5;rcases q1 with q1|⟨b,o,q1,q3⟩
  ·exact .inl q1
  ·refine .inr ⟨b,o,q1,fun i hi=> ?_⟩;have h6:=q2 b (by rw[q1];rfl);have h7:=hst.keep.block b h6.2 h6.1;have h8:=q3 i hi;rw[←h8];simp only[World.cell?,h7]
end
end Go.Proofs.YtoeofkcpclfnhaaGreat
