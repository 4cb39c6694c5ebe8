import Derived.Test.YtfdmhpohfjbpfaaGreatSq12
set_option linter.unusedVariables false
set_option linter.unusedSimpArgs false
namespace Go.Proofs.YtfdmhpohfjbpfaaGreat
open Go.ChangeShapes Go.WideShapes Go.ChangeAt Go.RowKit
set_option maxRecDepth 100000
theorem flatMap_len8 (xs:List Int):(xs.flatMap be8).length=xs.length* 8:=by
 induction xs with
 |nil=> simp
 |cons x xs ih=>rw [List.flatMap_cons,List.length_append,be8_length,ih,List.length_cons,Nat.succ_mul];omega
theorem wCmdP_eq (l:List UInt8) (p:Nat):wCmdP l p=bindP (kindP l p) fun v0 p=>bindP (timesP numP 10 l p) fun xs p=>bindP (truthP l p) fun v11 p=>bindP (listP 8 numP l p) fun v12 p=> .ok (⟨v0,xs.getD 0 0,xs.getD 1 0,xs.getD 2 0,xs.getD 3 0,xs.getD 4 0,xs.getD 5 0,xs.getD 6 0,xs.getD 7 0,xs.getD 8 0,xs.getD 9 0,v11,v12⟩,p):=by
 unfold wCmdP
 simp only[timesP,bindP_assoc,bindP_ok,List.getD_cons_zero,List.getD_cons_succ]
abbrev PCmd:=Option Addr×Nat
abbrev cellsCmd (v:WCmd) (p:PCmd):List Value:=[.int .i8 v.kind,.int .i64 v.client,.int .i64 v.number,.int .i64 v.tenant,.int .i64 v.rate,.int .i64 v.burst,.int .i64 v.shaper,.int .i64 v.epoch,.int .i64 v.lease,.int .i64 v.size,.int .i64 v.spent,.bool v.closed,.slice p.1 v.leases.length p.2]
def valCmd (v:WCmd) (p:PCmd):Value:= .agg #[.int .i8 v.kind,.int .i64 v.client,.int .i64 v.number,.int .i64 v.tenant,.int .i64 v.rate,.int .i64 v.burst,.int .i64 v.shaper,.int .i64 v.epoch,.int .i64 v.lease,.int .i64 v.size,.int .i64 v.spent,.bool v.closed,.slice p.1 v.leases.length p.2]
structure MemCmd (W w:World) (v:WCmd) (p:PCmd):Prop where
 row:FarRow W w p.1 (v.leases.flatMap cellsInt)
 le:v.leases.length≤ p.2
theorem MemCmd.keep {S:Nat→ Prop} {W w w':World} {v:WCmd} {p:PCmd} (h:MemCmd W w v p) (hk:Keep S w w') (hs:∀k,S k→k< W.heap.size):MemCmd W w' v p:=⟨h.row.keep hk hs,h.le⟩
theorem MemCmd.mono {W W' w:World} {v:WCmd} {p:PCmd} (h:MemCmd W w v p) (hw:W'.heap.size≤ W.heap.size):MemCmd W' w v p:=⟨h.row.mono hw,h.le⟩
theorem MemCmd.below {W w w':World} {v:WCmd} {p:PCmd} (h:MemCmd W w v p) (hb:Below w.heap.size w w'):MemCmd W w' v p:=⟨h.row.below hb,h.le⟩
def zCmd:WCmd:= ⟨0,0,0,0,0,0,0,0,0,0,0,false,[]⟩
def pzCmd:PCmd:= (none,0)
theorem memzCmd (W w:World):MemCmd W w zCmd pzCmd:=⟨FarRow.nil _ _ _,Nat.le_refl _⟩
def IsCmd (w0:World) (gx:Nat) (v:WCmd) (w':World):Prop:= ∃p: PCmd,Box w' gx (cellsCmd v p)∧MemCmd w0 w' v p
structure LowCmd (g:Nat) (w:World) (v:WCmd) (p:PCmd):Prop where
 row:LowRow g w p.1 (v.leases.flatMap cellsInt)
theorem LowCmd.up {g g':Nat} {w W:World} {v:WCmd} {p:PCmd} (h:LowCmd g w v p) (hg:g≤ g') (hb:Below w.heap.size w W):LowCmd g' W v p:=⟨h.row.up hg hb⟩
structure OkCmd (v:WCmd):Prop where
 kind:KindIn v.kind
 size:(encWCmd v).length≤1000000
set_option maxHeartbeats 8000000 in
theorem command_t (g c p gx:Nat) (a:Option Addr) (bs:List UInt8) (w:World) (h:Cr w g a c bs p) (hl:bs.length≤ 2000000) (hx:Box w gx [.int .i8 0,.int .i64 0,.int .i64 0,.int .i64 0,.int .i64 0,.int .i64 0,.int .i64 0,.int .i64 0,.int .i64 0,.int .i64 0,.int .i64 0,.bool false,.slice none 0 0]) (hgx:Off g (rowA a bs) gx):
 Calls Tryz.prog 61 #[.pointer (some ⟨g,0,none⟩),.pointer (some ⟨gx,0,none⟩)] w (RetTw w g gx 13 a c bs (wCmdP bs p) (IsCmd w gx)):=by
 have HP:=Lib.hid (wCmdP_eq bs p)
 have HT:=Lib.hid (Turn.refl g gx w)
 have HC:=Lib.hid h
 have HX:=Lib.hid hx
 have HGL:=Lib.hid (And.intro (h.box.lt (by simp)) (hx.lt (by simp)))
 clear h hx
 go_enter Tryz.func61,Tryz.ntmps61
 go_upto_region 1 with(go_at_call 108;((with_reducible refine(kind_t g c _ gx _ a bs _ 0 _ HC.out hl HX.out hgx (by simp) (by simp)).mono ?_);rintro e w1 ⟨ht,⟨v,q,hr,rfl,hc,hb⟩|⟨f,hr,rfl,hb⟩⟩<;>replace HT:=Lib.hid (Turn.next HT.out ht)<;>first| (replace HP:=Lib.hid (step_ok HP.out hr);replace HC:=Lib.hid hc;replace HX:=Lib.hid hb;clear ht hr hc hb)|(have HB:=Lib.hid hb;have HPE:=Lib.hid (step_bad HP.out hr);clear ht hr hb)))
 ·replace HX:Hid (Box w1 gx [.int .i8 v,.int .i64 0,.int .i64 0,.int .i64 0,.int .i64 0,.int .i64 0,.int .i64 0,.int .i64 0,.int .i64 0,.int .i64 0,.int .i64 0,.bool false,.slice none 0 0]):=HX
  go_quiet (fail)
  have HC3:=Lib.hid (HC.out.below (below_drewN (Below.refl w1.heap.size w1) nq))
  have HX3:=Lib.hid (HX.out.next (by simp) (below_drewN (Below.refl w1.heap.size w1) nq))
  have HT3:=Lib.hid (Turn.next HT.out (Turn.below (below_drewN (Below.refl w1.heap.size w1) nq)))
  clear HC HX HT
  have HC:=HC3
  have HX:=HX3
  have HT:=HT3
  clear HC3 HX3 HT3
  generalize w1.drewN nq=w2 at HC HX HT ⊢
  go_wp2
  go_loopw [5,42] (fun _ i wr=>∃(xs:List Int) (q1:Nat),xs.length≤10∧ i= .int .i64 xs.length∧Hid (Cr wr g a c bs q1)∧Hid (Turn g gx w wr)∧Hid (Box wr gx (putI [.int .i8 v,.int .i64 0,.int .i64 0,.int .i64 0,.int .i64 0,.int .i64 0,.int .i64 0,.int .i64 0,.int .i64 0,.int .i64 0,.int .i64 0,.bool false,.slice none 0 0] 1 xs))∧Hid (timesP numP xs.length bs q= .ok (xs,q1))) (fun _ i _=>10- (intOf i).toNat)
  case atStart=>exact ⟨[],q,by simp,rfl,HC.out,HT.out,by show Box _ _ _;rw[putI_nil];exact HX.out,rfl⟩
  case round=>
   obtain⟨xs,q1,hk,rfl,hcr,htr,hbx,hpr⟩:=hrel
   by_cases hlt:xs.length< 10
   ·have hnw:=number_t g c q1 gx (1+xs.length) a bs _ wr hcr.out hl hbx.out hgx (by rw[putI_length (by simp;omega)];simp;omega)
    have HNW:=Lib.hid hnw
    clear hnw
    have hidx:∀w,(Instr.index 148 (.agg #[.pointer (some ⟨gx,1,none⟩),.pointer (some ⟨gx,2,none⟩),.pointer (some ⟨gx,3,none⟩),.pointer (some ⟨gx,4,none⟩),.pointer (some ⟨gx,5,none⟩),.pointer (some ⟨gx,6,none⟩),.pointer (some ⟨gx,7,none⟩),.pointer (some ⟨gx,8,none⟩),.pointer (some ⟨gx,9,none⟩),.pointer (some ⟨gx,10,none⟩)]) (.int .i64 xs.length)).run Tryz.prog w= .ok (.pointer (some ⟨gx,1+xs.length,none⟩)) w:=fun _=>by
     clear hcr htr hbx hpr HNW
     generalize xs.length=k at hlt
     rcases(show k=0∨ k=1∨ k=2∨ k=3∨ k=4∨ k=5∨ k=6∨ k=7∨ k=8∨ k=9 by omega)with rfl|rfl| rfl|rfl| rfl|rfl| rfl|rfl| rfl|rfl<;>kernel_rfl
    go_wp2_with(go_at_call 109;((with_reducible refine HNW.out.mono ?_);rintro en w4 ⟨ht,⟨v4,q4,hr,rfl,hc,hb⟩|⟨f,hr,rfl,hb⟩⟩<;>have HT4:=Lib.hid (Turn.next htr.out ht)<;>have HR4:=Lib.hid hr<;>have HB4:=Lib.hid hb<;>clear ht hr hb;all_goals(first|(have HC4:=Lib.hid hc;clear hc)|skip)))
    ·have hb:=HB4.out
     rw[putI_snoc (by simp;omega)]at hb
     exact⟨⟨xs++[v4],q4,by simp;omega,by simp,HC4.out,HT4.out,hb,by(show _=_);rw[List.length_append];exact times_snoc hpr.out HR4.out⟩,by simp[intOf];omega⟩
    ·refine⟨rfl,HT4.out,.inr ⟨_,step_bad HP.out (times_fail hpr.out HR4.out hlt),rfl,?_⟩⟩
     have h1:=HB4.out
     rw[putI_length (by simp;omega)]at h1;exact h1
   ·have h4:xs.length= 10:=by omega
    have HPR:=hpr.out
    rw[h4]at HPR
    obtain⟨y0,y1,y2,y3,y4,y5,y6,y7,y8,y9,rfl⟩:∃y0 y1 y2 y3 y4 y5 y6 y7 y8 y9,xs=[y0,y1,y2,y3,y4,y5,y6,y7,y8,y9]:=by
     match xs,h4 with
     |[y0,y1,y2,y3,y4,y5,y6,y7,y8,y9],_=>exact ⟨y0,y1,y2,y3,y4,y5,y6,y7,y8,y9,rfl⟩
    replace HP:=Lib.hid (step_ok HP.out HPR)
    clear HPR HC HT HX
    have HC:=hcr
    have HT:=htr
    have HX:Hid (Box wr gx [.int .i8 v,.int .i64 y0,.int .i64 y1,.int .i64 y2,.int .i64 y3,.int .i64 y4,.int .i64 y5,.int .i64 y6,.int .i64 y7,.int .i64 y8,.int .i64 y9,.bool false,.slice none 0 0]):=hbx
    clear hcr htr hbx hpr h4 hk hlt
    have hmf:∀(fn:Fn) (first cap:Array Value) (w:World),(Instr.makeFunc fn first cap).run Tryz.prog w= .ok (.func fn first cap) w:=fun _ _ _ _=>rfl
    go_wp2_with(first|(go_at_call 110;((with_reducible refine(truth_t g c _ gx _ a bs _ _ HC.out hl HX.out hgx (by simp) (by simp)).mono ?_);rintro e w1 ⟨ht,⟨v,q,hr,rfl,hc,hb⟩|⟨f,hr,rfl,hb⟩⟩<;>replace HT:=Lib.hid (Turn.next HT.out ht)<;>first| (replace HP:=Lib.hid (step_ok HP.out hr);replace HC:=Lib.hid hc;replace HX:=Lib.hid hb;clear ht hr hc hb)|(have HB:=Lib.hid hb;have HPE:=Lib.hid (step_bad HP.out hr);clear ht hr hb)))|(go_at_call 111;((with_reducible refine(listint_t g c _ gx 12 a bs _ _ HC.out hl HX.out hgx (by simp) (by simp)).mono ?_);rintro e w1 ⟨ht,⟨v,q,hr,rfl,hc,ad,k,hb,hd,hk⟩|⟨f,hr,rfl,hb⟩⟩<;>have hsz:=HT.out.size<;>replace HT:=Lib.hid (Turn.next HT.out ht)<;>first| (replace HP:=Lib.hid (step_ok HP.out hr);replace HC:=Lib.hid hc;replace HX:=Lib.hid hb;have HD:=Lib.hid (hd.mono hsz);have HK:=Lib.hid hk;clear ht hr hc hb hd hk hsz)|(have HB:=Lib.hid hb;have HPE:=Lib.hid (step_bad HP.out hr);clear ht hr hb))))
    all_goals first
     |(first|go_end0| refine bodyPost_ret (results_none rfl _ _ _) rfl ?_);exact⟨HT.out,.inl ⟨_,_,HP.out,rfl,HC.out,(ad,k),HX.out,HD.out,HK.out⟩⟩
     |exact ⟨rfl,HT.out,.inr ⟨_,HPE.out,rfl,HB.out⟩⟩
 ·exact⟨rfl,HT.out,.inr ⟨_,HPE.out,rfl,HB.out⟩⟩
set_option maxHeartbeats 8000000 in
theorem command_w (D g gx c:Nat) (a:Option Addr) (bs:List UInt8) (x:WCmd) (p:PCmd) (w:World) (h:Cw w D g a c bs) (hD:D≤ w.heap.size) (hx:Box w gx (cellsCmd x p)) (hp:LowCmd g w x p) (hok:OkCmd x) (hgx:gx≠ g) (hxa:∀o s,a≠some ⟨gx,o,s⟩) (hn:bs.length≤ 1000000):
 Calls Tryz.prog 61 #[.pointer (some ⟨g,0,none⟩),.pointer (some ⟨gx,0,none⟩)] w (RetCw w D g a (bs++encWCmd x)):=by
 have HK:=Lib.hid (show-128≤ x.kind∧x.kind< 128 from hok.kind)
 have HL:=Lib.hid (show(x.leases.flatMap be8).length≤1000000∧ x.leases.length≤1000000 by have h1:=hok.size;have h2:=flatMap_len8 x.leases;unfold encWCmd at h1;simp only[List.length_append]at h1;omega)
 have HR:=Lib.hid hp.row
 have HG:=Lib.hid (Grew.refl g a w)
 have HC:=Lib.hid h
 have HX:=Lib.hid hx
 have HX0:=Lib.hid hx
 have HO:=Lib.hid (And.intro hgx (And.intro (hx.lt (by simp)) hxa))
 have HRL:=Lib.hid (fun(a3:Option Addr) (wr:World) (_:True) (hg:Grew g a a3 w wr)=>hp.row.grew h hg)
 clear h hx hp hok hgx hxa
 obtain⟨kind,client,number,tenant,rate,burst,shaper,epoch,lease,size,spent,closed,leases⟩:=x
 obtain⟨p0,p1⟩:=p
 simp only at HX HX0 HK HL HR HRL
 go_enter Tryz.func61,Tryz.ntmps61
 go_upto_region 1 with(go_at_call 108;((with_reducible refine(kind_w D g gx 0 _ _ _ kind _ HC.out (Nat.le_trans hD HG.out.size) (HX.out.cell (j:=0) (by simp)) (HX.out.froz (j:=0) (by simp)) HK.out HO.out.1 (HG.out.off HO.out.2.1 HO.out.2.2) (by first|omega| (simp only[List.length_append,be8_length,List.length_cons,List.length_nil];omega))).mono ?_);rintro en w1 ⟨a1,c1,rfl,hcw1,hgr1⟩;replace HX:=Lib.hid (HX.out.grew (by simp) hgr1 HO.out.1 (HG.out.off HO.out.2.1 HO.out.2.2));replace HR:=Lib.hid (HR.out.grew HC.out hgr1);replace HG:=Lib.hid (HG.out.trans hgr1);replace HC:=Lib.hid hcw1;clear hcw1 hgr1))
 go_quiet (fail)
 have HC3:=Lib.hid (HC.out.below (below_drewN (Below.refl w1.heap.size w1) nq))
 have HG3:=Lib.hid (HG.out.next (below_drewN (Below.refl w1.heap.size w1) nq))
 clear HC HG HX
 have HC:=HC3
 have HG:=HG3
 clear HC3 HG3
 have HR0:=HR
 generalize w1.drewN nq=w2 at HC HG ⊢
 go_wp2
 have HCL:Hid (∀k (h:k< ([client,number,tenant,rate,burst,shaper,epoch,lease,size,spent]:List Int).length),∀wr,Box wr gx [.int .i8 kind,.int .i64 client,.int .i64 number,.int .i64 tenant,.int .i64 rate,.int .i64 burst,.int .i64 shaper,.int .i64 epoch,.int .i64 lease,.int .i64 size,.int .i64 spent,.bool closed,.slice p0 leases.length p1]→wr.cell? ⟨gx,1+k,none⟩=some (.int .i64 (([client,number,tenant,rate,burst,shaper,epoch,lease,size,spent]:List Int)[k]))):=fun k h wr hb=>by
  rcases(show k=0∨ k=1∨ k=2∨ k=3∨ k=4∨ k=5∨ k=6∨ k=7∨ k=8∨ k=9 by simp at h;omega)with rfl|rfl| rfl|rfl| rfl|rfl| rfl|rfl| rfl|rfl<;>exact hb.cell rfl
 go_loopw [5,42] (fun _ i wr=>∃(k:Nat) (a3:Option Addr) (c3:Nat),k≤10∧ i= .int .i64 k∧Hid (Cw wr D g a3 c3 ((bs++[kindB kind])++(([client,number,tenant,rate,burst,shaper,epoch,lease,size,spent]:List Int).take k).flatMap be8))∧Hid (Grew g a a3 w wr)) (fun _ i _=>10- (intOf i).toNat)
 case atStart=>exact ⟨0,a1,c1,by omega,rfl,by show Cw _ _ _ _ _ _;simpa using HC.out,HG.out⟩
 case round=>
  obtain⟨k,a3,c3,hk,rfl,hcw,hgr⟩:=hrel
  have hDr:D≤ wr.heap.size:=Nat.le_trans hD hgr.out.size
  have hofa:=hgr.out.off HO.out.2.1 HO.out.2.2
  by_cases hlt:k< 10
  ·have hkv:k< ([client,number,tenant,rate,burst,shaper,epoch,lease,size,spent]:List Int).length:=hlt
   have hbw:=HX0.out.grew (by simp) hgr.out HO.out.1 HO.out.2.2
   have hll:((bs++[kindB kind])++(([client,number,tenant,rate,burst,shaper,epoch,lease,size,spent]:List Int).take k).flatMap be8).length≤2000000:= by
    have h1:((([client,number,tenant,rate,burst,shaper,epoch,lease,size,spent]:List Int).take k).flatMap be8).length=(([client,number,tenant,rate,burst,shaper,epoch,lease,size,spent]:List Int).take k).length*8:= flatMap_len8 _
    rw[List.length_append,h1,List.length_take]
    first|omega| (simp only[List.length_append,be8_length,List.length_cons,List.length_nil];omega)
   have HNW:=Lib.hid (number_w D g gx (1+k) c3 a3 _ _ wr hcw.out hDr (HCL.out k hkv wr hbw) HO.out.1 hofa (by omega))
   have HTK:=Lib.hid (show(bs++[kindB kind])++(([client,number,tenant,rate,burst,shaper,epoch,lease,size,spent]:List Int).take (k+1)).flatMap be8=((bs++[kindB kind])++(([client,number,tenant,rate,burst,shaper,epoch,lease,size,spent]:List Int).take k).flatMap be8)++be8 (([client,number,tenant,rate,burst,shaper,epoch,lease,size,spent]:List Int)[k]'hkv) by rw[List.take_succ_eq_append_getElem hkv,List.flatMap_append,List.flatMap_singleton];simp only[List.append_assoc])
   generalize([client,number,tenant,rate,burst,shaper,epoch,lease,size,spent]:List Int)[k]'hkv=vk at HNW HTK
   have hidx:∀w,(Instr.index 148 (.agg #[.pointer (some ⟨gx,1,none⟩),.pointer (some ⟨gx,2,none⟩),.pointer (some ⟨gx,3,none⟩),.pointer (some ⟨gx,4,none⟩),.pointer (some ⟨gx,5,none⟩),.pointer (some ⟨gx,6,none⟩),.pointer (some ⟨gx,7,none⟩),.pointer (some ⟨gx,8,none⟩),.pointer (some ⟨gx,9,none⟩),.pointer (some ⟨gx,10,none⟩)]) (.int .i64 k)).run Tryz.prog w= .ok (.pointer (some ⟨gx,1+k,none⟩)) w:=fun _=>by
    clear hcw hgr HNW HTK hll hkv hbw hofa hDr
    rcases(show k=0∨ k=1∨ k=2∨ k=3∨ k=4∨ k=5∨ k=6∨ k=7∨ k=8∨ k=9 by omega)with rfl|rfl| rfl|rfl| rfl|rfl| rfl|rfl| rfl|rfl<;>kernel_rfl
   clear hll hkv hbw
   go_wp2_with(go_at_call 109;((with_reducible refine HNW.out.mono ?_);rintro en w4 ⟨a4,c4,rfl,hcw4,hgr4⟩;have HC4:=Lib.hid hcw4;have HG4:=Lib.hid hgr4;clear hcw4 hgr4))
   exact⟨⟨k+1,a4,c4,by omega,by go_num,by show Cw _ _ _ _ _ _;rw[HTK.out];exact HC4.out,hgr.out.trans HG4.out⟩,by simp[intOf];omega⟩
  ·obtain rfl:k= 10:=by omega
   have HC':=hcw
   have HG':=hgr
   have HX':=Lib.hid (HX0.out.grew (by simp) hgr.out HO.out.1 HO.out.2.2)
   have HRW:=Lib.hid (HRL.out _ _ trivial hgr.out)
   clear HC HG hcw hgr hDr hofa
   have HC:=HC'
   have HG:=HG'
   have HX:=HX'
   have HR:=HRW
   have hmf:∀(fn:Fn) (first cap:Array Value) (w:World),(Instr.makeFunc fn first cap).run Tryz.prog w= .ok (.func fn first cap) w:=fun _ _ _ _=>rfl
   have hl8:=flatMap_len8 ([client,number,tenant,rate,burst,shaper,epoch,lease,size,spent])
   simp only[List.take_of_length_le (show([client,number,tenant,rate,burst,shaper,epoch,lease,size,spent]:List Int).length≤10 from Nat.le_refl _)]at HC
   generalize hB:(bs++[kindB kind])++([client,number,tenant,rate,burst,shaper,epoch,lease,size,spent]:List Int).flatMap be8=b1 at HC
   have hbl:b1.length≤ 1000081:=by rw[←hB,List.length_append,List.length_append,hl8];simp;omega
   have HBB:=Lib.hid hB
   clear hB hl8
   go_wp2_with(first|(go_at_call 110;((with_reducible refine(truth_w D g gx 11 _ _ _ closed _ HC.out (Nat.le_trans hD HG.out.size) (HX.out.cell (j:=11) (by simp)) (HX.out.froz (j:=11) (by simp)) HO.out.1 (HG.out.off HO.out.2.1 HO.out.2.2) (by first|omega| (simp only[List.length_append,be8_length,List.length_cons,List.length_nil];omega))).mono ?_);rintro en w1 ⟨a1,c1,rfl,hcw1,hgr1⟩;replace HX:=Lib.hid (HX.out.grew (by simp) hgr1 HO.out.1 (HG.out.off HO.out.2.1 HO.out.2.2));replace HR:=Lib.hid (HR.out.grew HC.out hgr1);replace HG:=Lib.hid (HG.out.trans hgr1);replace HC:=Lib.hid hcw1;clear hcw1 hgr1))|(go_at_call 111;((with_reducible refine(listint_w D g gx 12 _ leases.length p1 _ p0 _ leases _ HC.out (Nat.le_trans hD HG.out.size) (HX.out.cell (j:=12) (by simp)) rfl HR.out HO.out.1 (HG.out.off HO.out.2.1 HO.out.2.2) (by first|omega| (simp only[List.length_append,be8_length,List.length_cons,List.length_nil];omega)) HL.out.1 HL.out.2).mono ?_);rintro en w1 ⟨a1,c1,rfl,hcw1,hgr1⟩;replace HG:=Lib.hid (HG.out.trans hgr1);replace HC:=Lib.hid hcw1;clear hcw1 hgr1)))
   first|go_end0| refine bodyPost_ret (results_none rfl _ _ _) rfl ?_
   refine⟨a1,c1,rfl,?_,HG.out⟩
   have hc:=HC.out
   rw[←HBB.out]at hc
   simp only[List.append_assoc,List.flatMap_cons,List.flatMap_nil,List.append_nil]at hc
   unfold encWCmd
   simp only[List.append_assoc]
   exact hc
end Go.Proofs.YtfdmhpohfjbpfaaGreat
