import Derived.LoopTactic
import Derived.Test.YtoeofkcpclfnhaaGreatSr02
set_option linter.unusedVariables false
set_option linter.unusedSimpArgs false
namespace Go.Proofs.YtoeofkcpclfnhaaGreat
open Go.ChangeShapes Go.WideShapes Go.ChangeAt Go.RowKit
set_option maxRecDepth 100000
set_option maxHeartbeats 16000000
def chkR(b t:Int)(es:List WEnt):Int:= if okR b t es=true then 0 else 90
theorem chk_ok{b t:Int}{es:List WEnt}(h:okR b t es=true):chkR b t es=0:= if_pos h
theorem chk_not{b t:Int}{es:List WEnt}(h:okR b t es=false):chkR b t es=90:= if_neg (by rw[h];exact Bool.false_ne_true)
def RetI(w:World)(r:Int)(e:Ending)(w':World):Prop:= e= .returned (.int .i64 r)∧Below w.heap.size w w'
theorem ret_i{w w':World}{r k:Int}(h:r= k)(hb:Below w.heap.size w w'):RetI w r (.returned (.int .i64 k)) w':=⟨by rw[h],hb⟩
theorem cell_next{w w':World}{p:Addr}{v:Value}(hb:Below w.heap.size w w')(h:w.cell? p=some v):w'.cell? p=some v:=(hb.cell (World.block_lt_of_cell? w _ h)).trans h
theorem Row.mono_below{w w':World}{a:Option Addr}{xs:List Value}(h:Row w a xs)(hb:Below w.heap.size w w'):Row w' a xs:=Row.below h hb
theorem tq2 {P:Prop}(h:P:=by
 have hke:¬k< n:=hlt;obtain rfl:k= n:=o_;have hgg:goodEs t (ents es)=true:= by have h1:=HG.out;rw[List.take_of_length_le (Nat.le_of_eq HLN.out)]at h1;exact h1
 have HGG:=h_ hgg;clear hgg;go_wp2_with fail;go_ret
 exact ret_i ((HH true HGG.out).trans rfl) HBL.out):P:=h
theorem tq3 {P:Prop}(h:P:=by
 (go_enter Tryz.func18,Tryz.ntmps18;go_wp2_with fail);go_ret
 exact ret_i (HHF (by simp only[beq_eq_false_iff_ne,beq_iff_eq,bne_iff_ne,bne_eq_false_iff_eq,decide_eq_true_eq,decide_eq_false_iff_not,ne_eq]at fb fn fs ft e1 e2;omega)) (mid_alloc' b_)):P:=h
theorem tq5 {P:Prop}(h:P:=by
 go_roundw
 case rel=>exact ⟨k+1,by omega,by go_num,by rw[HT2.out],by(show goodEs t ((ents es).take (k+1))=true);rw[HG2.out,HG.out];rfl,HBL.trans (HB2.mono HBL.size),HBX.next (by simp) HB2.out⟩
 case measure=>simp [intOf];omega):P:=h
theorem tq6 {P:Prop}(h:P:=by
 go_ret
 exact ret_i (HHF (by simp only[beq_eq_false_iff_ne,beq_iff_eq,bne_iff_ne,bne_eq_false_iff_eq,decide_eq_true_eq,decide_eq_false_iff_not,ne_eq]at fb;omega)) (mid_alloc' b_)):P:=h
theorem tq7 {P:Prop}(h:P:=by
 go_ret
 exact ret_i (HHF (by simp only[beq_eq_false_iff_ne,beq_iff_eq,bne_iff_ne,bne_eq_false_iff_eq,decide_eq_true_eq,decide_eq_false_iff_not,ne_eq]at fn;omega)) (mid_alloc' b_)):P:=h
theorem tq8 {P:Prop}(h:P:=by
 go_ret
 exact ret_i (HHF (by simp only[beq_eq_false_iff_ne,beq_iff_eq,bne_iff_ne,bne_eq_false_iff_eq,decide_eq_true_eq,decide_eq_false_iff_not,ne_eq]at fs;omega)) (mid_alloc' b_)):P:=h
theorem tq9 {P:Prop}(h:P:=by
 go_ret
 exact ret_i (HHF (by simp only[beq_eq_false_iff_ne,beq_iff_eq,bne_iff_ne,bne_eq_false_iff_eq,decide_eq_true_eq,decide_eq_false_iff_not,ne_eq]at ft;omega)) (mid_alloc' b_)):P:=h
theorem check_any(es:List RwE)(b t:Int)(a:Option Addr)(n c:Nat)(w:World)(hn:es.length= n)(hl:n≤ 1000000)(hr:Row w a (es.flatMap cellsRw)):
 Calls Tryz.prog 18 #[.agg #[.int .i64 b,.int .i64 t,.slice a n c]] w (RetI w (chkR b t (ents es))):=by
 have hlen:(ents es).length=n:= by rw[←hn];exact List.length_map _
 have HHF:=h_ (fun(h:¬(0≤b∧ n≤4096∧ b≤1099511627776- (n:Int)∧0≤ t∧(b=0↔ t=0)))=>chk_not (es:=ents es) (okR_head (by rw[hlen];exact headR_not.2 h)));have HHT:=h_ (fun(h:0≤ b∧n≤ 4096∧b≤ 1099511627776-(n:Int)∧0≤ t∧(b=0↔ t=0)) (v:Bool) (hv:goodEs t (ents es)=v)=>show chkR b t (ents es)=(if v=true then 0 else 90) by unfold chkR okR;rw[hlen,headR_iff.2 h,hv,Bool.true_and]);have HLN:=h_ hlen;have HR:=h_ hr;have HN:=h_ hn;clear hlen hr hn;generalize hcv:chkR b t (ents es)=cv at HHF HHT ⊢;clear hcv;rcases fb:decide (b<0)with _|_;rotate_left
 ·(go_enter Tryz.func18,Tryz.ntmps18;go_wp2_with fail);exact tq6
 rcases fn:decide ((4096:Int)<(n:Int))with _|_;rotate_left
 ·(go_enter Tryz.func18,Tryz.ntmps18;go_wp2_with fail);exact tq7
 rcases fs:decide (1099511627776-(n:Int)<b)with _|_;rotate_left
 ·(go_enter Tryz.func18,Tryz.ntmps18;go_wp2_with fail);exact tq8
 rcases ft:decide (t<0)with _|_;rotate_left
 ·(go_enter Tryz.func18,Tryz.ntmps18;go_wp2_with fail);exact tq9
 rcases e1:(b==0)with _|_<;>rcases e2:(t==0)with _|_
 rotate_left
 ·exact tq3
 ·exact tq3
 all_goals
  have hH:=HHT.out (by simp only[beq_eq_false_iff_ne,beq_iff_eq,bne_iff_ne,bne_eq_false_iff_eq,decide_eq_true_eq,decide_eq_false_iff_not,ne_eq]at fb fn fs ft e1 e2;omega);clear HHT HHF;have HH:=h_ hH;clear hH;have hHB:Box (w.alloc (.cells #[.int .i64 b,.int .i64 t,.slice a n c] 33)) w.heap.size [.int .i64 b,.int .i64 t,.slice a n c]:=Box.of_alloc (w:=w) (cs:=[.int .i64 b,.int .i64 t,.slice a n c]) (t:=33) b_;have HB0:=h_ hHB;have HBL0:Hid (Below w.heap.size w (w.alloc (.cells #[.int .i64 b,.int .i64 t,.slice a n c] 33))):=mid_alloc' b_;clear hHB;go_enter Tryz.func18,Tryz.ntmps18;go_wp2_with fail;go_loopw [3,42] (fun tm i wr=>∃k: Nat,k≤n∧ i= .int .i64 k∧tm= .int .i64 (lastT t ((ents es).take k))∧Hid (goodEs t ((ents es).take k)=true)∧Hid (Below w.heap.size w wr)∧Hid (Box wr w.heap.size [.int .i64 b,.int .i64 t,.slice a n c])) (fun _ i _=>n- (intOf i).toNat)
  case atStart=>exact ⟨0,Nat.zero_le _,rfl,rfl,rfl,HBL0.out,HB0.out⟩
  case round=>
   clear HB0 HBL0;obtain⟨k,hk,rfl,rfl,HG,HBL,HBX⟩:=hrel;have k0:=HBX.cell (j:=0) rfl;have k1:=HBX.cell (j:=1) rfl;have k2:=HBX.cell (j:=2) rfl;by_cases hlt:k< n
   ·have hke:k< es.length:=by rw[HN.out];exact hlt
    have hkl:k< (ents es).length:=by rw[HLN.out];exact hlt
    obtain⟨bb,oo,ha,hE⟩:=entAt (HR.mono_below HBL.out) hke;have HE:=h_ hE;have HT2:=h_ (lastT_take (t:=t) hkl);have HG2:=h_ (goodEs_take (t:=t) hkl);have HG3:=h_ (fun h=>goodEs_not (t:=t) hkl h);have hxe:(ents es)[k]=es[k].1:=List.getElem_map _;rw[hxe]at HT2 HG2 HG3;have HM:=h_ (may_any bb (oo+k* 5) es[k].1 es[k].2 (lastT t ((ents es).take k)) wr HE.out);generalize es[k]=x at HE HT2 HG2 HG3 HM;obtain⟨x,p⟩:=x;have j0:=HE.c0;have j1:=HE.c1;have j2:=HE.c2;have j3:=HE.c3;have j4:=HE.c4;simp only at j0 j1 j2 j3 j4 HM;clear HE hE hke hkl hxe;subst ha;generalize hMV:lastT t ((ents es).take k)=tk at HG2 HG3 HM ⊢;clear hMV;rcases hmv:mayE tk x with _|_
    all_goals
     rw[hmv]at HM HG2 HG3;have HMV:=h_ hmv;clear hmv
    ·go_wp2_with(go_at_call 38;((with_reducible refine HM.out.mono ?_);rintro e w2 ⟨rfl,nd,rfl⟩;have HB2:=h_ (below_drewN (Below.refl wr.heap.size wr) nd)));go_ret;exact ret_i ((HH false (HG3 (by first|trivial| rfl))).trans rfl) (HBL.trans (HB2.mono HBL.size))
    ·go_wp2_with(go_at_call 38;((with_reducible refine HM.out.mono ?_);rintro e w2 ⟨rfl,nd,rfl⟩;have HB2:=h_ (below_drewN (Below.refl wr.heap.size wr) nd)));exact tq5
   ·exact tq2
theorem tq4 {P:Prop}(h:P:=by
 (go_enter Tryz.func71,Tryz.ntmps71;go_wp2_with fail);go_ret
 exact ret_i (HHF (by simp only[beq_eq_false_iff_ne,beq_iff_eq,bne_iff_ne,bne_eq_false_iff_eq,decide_eq_true_eq,decide_eq_false_iff_not,ne_eq]at fn fb fs ft e1 e2;omega)) (mid_alloc' b_)):P:=h
theorem refcheck_any(es:List RwE)(b t:Int)(a:Option Addr)(n c:Nat)(w:World)(hn:es.length= n)(hl:n≤ 1000000)(hr:Row w a (es.flatMap cellsRw)):
 Calls Tryz.prog 71 #[.agg #[.int .i64 b,.int .i64 t,.slice a n c]] w (RetI w (chkR b t (ents es))):=by
 have hlen:(ents es).length=n:= by rw[←hn];exact List.length_map _
 have HHF:=h_ (fun(h:¬(0≤b∧ n≤4096∧ b≤1099511627776- (n:Int)∧0≤ t∧(b=0↔ t=0)))=>chk_not (es:=ents es) (okR_head (by rw[hlen];exact headR_not.2 h)));have HHT:=h_ (fun(h:0≤ b∧n≤ 4096∧b≤ 1099511627776-(n:Int)∧0≤ t∧(b=0↔ t=0)) (v:Bool) (hv:goodEs t (ents es)=v)=>show chkR b t (ents es)=(if v=true then 0 else 90) by unfold chkR okR;rw[hlen,headR_iff.2 h,hv,Bool.true_and]);have HLN:=h_ hlen;have HR:=h_ hr;have HN:=h_ hn;clear hlen hr hn;generalize hcv:chkR b t (ents es)=cv at HHF HHT ⊢;clear hcv;rcases fn:decide ((4096:Int)<(n:Int))with _|_;rotate_left
 ·(go_enter Tryz.func71,Tryz.ntmps71;go_wp2_with fail);exact tq7
 rcases fb:decide (b<0)with _|_;rotate_left
 ·(go_enter Tryz.func71,Tryz.ntmps71;go_wp2_with fail);exact tq6
 rcases fs:decide (1099511627776-(n:Int)<b)with _|_;rotate_left
 ·(go_enter Tryz.func71,Tryz.ntmps71;go_wp2_with fail);exact tq8
 rcases ft:decide (t<0)with _|_;rotate_left
 ·(go_enter Tryz.func71,Tryz.ntmps71;go_wp2_with fail);exact tq9
 rcases e1:(b==0)with _|_<;>rcases e2:(t==0)with _|_
 rotate_left
 ·exact tq4
 ·exact tq4
 all_goals
  have hH:=HHT.out (by simp only[beq_eq_false_iff_ne,beq_iff_eq,bne_iff_ne,bne_eq_false_iff_eq,decide_eq_true_eq,decide_eq_false_iff_not,ne_eq]at fn fb fs ft e1 e2;omega);clear HHT HHF;have HH:=h_ hH;clear hH;have hHB:Box (w.alloc (.cells #[.int .i64 b,.int .i64 t,.slice a n c] 33)) w.heap.size [.int .i64 b,.int .i64 t,.slice a n c]:=Box.of_alloc (w:=w) (cs:=[.int .i64 b,.int .i64 t,.slice a n c]) (t:=33) b_;have HB0:=h_ hHB;have HBL0:Hid (Below w.heap.size w (w.alloc (.cells #[.int .i64 b,.int .i64 t,.slice a n c] 33))):=mid_alloc' b_;clear hHB;go_enter Tryz.func71,Tryz.ntmps71;go_wp2_with fail;go_loopw [3,4] (fun tm i wr=>∃k: Nat,k≤n∧ i= .int .i64 k∧tm= .int .i64 (lastT t ((ents es).take k))∧Hid (goodEs t ((ents es).take k)=true)∧Hid (Below w.heap.size w wr)∧Hid (Box wr w.heap.size [.int .i64 b,.int .i64 t,.slice a n c])) (fun _ i _=>n- (intOf i).toNat)
  case atStart=>exact ⟨0,Nat.zero_le _,rfl,rfl,rfl,HBL0.out,HB0.out⟩
  case round=>
   clear HB0 HBL0;obtain⟨k,hk,rfl,rfl,HG,HBL,HBX⟩:=hrel;have k0:=HBX.cell (j:=0) rfl;have k1:=HBX.cell (j:=1) rfl;have k2:=HBX.cell (j:=2) rfl;by_cases hlt:k< n
   ·have hke:k< es.length:=by rw[HN.out];exact hlt
    have hkl:k< (ents es).length:=by rw[HLN.out];exact hlt
    obtain⟨bb,oo,ha,hE⟩:=entAt (HR.mono_below HBL.out) hke;have HE:=h_ hE;have HT2:=h_ (lastT_take (t:=t) hkl);have HG2:=h_ (goodEs_take (t:=t) hkl);have HG3:=h_ (fun h=>goodEs_not (t:=t) hkl h);have hxe:(ents es)[k]=es[k].1:=List.getElem_map _;rw[hxe]at HT2 HG2 HG3;have HM:=h_ (refentry_any es[k].1 es[k].2 (lastT t ((ents es).take k)) wr);generalize es[k]=x at HE HT2 HG2 HG3 HM;obtain⟨x,p⟩:=x;have j0:=HE.c0;have j1:=HE.c1;have j2:=HE.c2;have j3:=HE.c3;have j4:=HE.c4;simp only at j0 j1 j2 j3 j4 HM;clear HE hE hke hkl hxe;subst ha;generalize hMV:lastT t ((ents es).take k)=tk at HG2 HG3 HM ⊢;clear hMV;rcases hmv:mayE tk x with _|_
    all_goals
     rw[hmv]at HM HG2 HG3;have HMV:=h_ hmv;clear hmv
    ·go_wp2_with(go_at_call 96;((with_reducible refine HM.out.mono ?_);rintro e w2 ⟨rfl,hb⟩;have HB2:=h_ hb;have k0:=(HBX.next (by simp) hb).cell (j:=0) rfl;have k1:=(HBX.next (by simp) hb).cell (j:=1) rfl;have k2:=(HBX.next (by simp) hb).cell (j:=2) rfl;replace j0:=cell_next hb j0;clear hb));go_ret;exact ret_i ((HH false (HG3 (by first|trivial| rfl))).trans rfl) (HBL.trans (HB2.mono HBL.size))
    ·go_wp2_with(go_at_call 96;((with_reducible refine HM.out.mono ?_);rintro e w2 ⟨rfl,hb⟩;have HB2:=h_ hb;have k0:=(HBX.next (by simp) hb).cell (j:=0) rfl;have k1:=(HBX.next (by simp) hb).cell (j:=1) rfl;have k2:=(HBX.next (by simp) hb).cell (j:=2) rfl;replace j0:=cell_next hb j0;clear hb));exact tq5
   ·exact tq2
end Go.Proofs.YtoeofkcpclfnhaaGreat
