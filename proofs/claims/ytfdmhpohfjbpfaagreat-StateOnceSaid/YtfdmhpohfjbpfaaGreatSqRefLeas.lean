import Derived.Test.YtfdmhpohfjbpfaaGreatSq14
set_option linter.unusedVariables false
set_option linter.unusedSimpArgs false
namespace Go.Proofs.YtfdmhpohfjbpfaaGreat
open Go.ChangeShapes Go.WideShapes Go.ChangeAt Go.RowKit
set_option maxRecDepth 100000
def leasesB (s:St):Bool:= leasOk s.tens s.next s.leas&&decide (s.leas.length≤64∧ 1≤s.next∧ s.next≤1099511627776)
theorem lastKey_pos {ls:List Lease} {ts:List Tenant} {next:Int} {k:Nat} (h:leasOk ts next (ls.take k)=true):0≤ lastKey Lease.id 0 (ls.take k):=lastKey_ge h
set_option maxHeartbeats 8000000 in
theorem refleases_st (s:St) (r:Raw) (B:Nat) (w:World) (h:StAt w B r s) (ht:tensOk 0 s.tens=true) (hl:s.tens.length≤ 900) (hl2:s.leas.length≤ 900):
 Calls Tryz.prog 54 #[r.agg] w fun e w'=>e= .returned (.bool (leasesB s))∧Below w.heap.size w w':=by
 obtain⟨term,stamp,next,⟨a1,n1,c1⟩,⟨a2,n2,c2⟩,⟨a3,n3,c3⟩,⟨a4,n4,c4⟩⟩:=r
 obtain⟨term',stamp',nx,ts,ls,ss,ds⟩:=s
 have hnx:=h.next
 have hn1:=h.ten.len
 have hn2:=h.lea.len
 have hr1:=h.trow
 have hr2:=h.lea.row
 simp only at hnx hn1 hn2 hr1 hr2 hl hl2
 subst hnx
 subst hn1
 subst hn2
 clear h
 have hmax:ts.length≤ maxLen:=le_maxLen (by omega)
 have HB3:Hid (leasOk ts next ls=false→ leasesB ⟨term',stamp',next,ts,ls,ss,ds⟩=false):=fun h=>by unfold leasesB;rw[h];rfl
 have HFIN:Hid (leasOk ts next ls=true→ decide (ls.length≤64∧ 1≤next∧ next≤1099511627776)=leasesB ⟨term',stamp',next,ts,ls,ss,ds⟩):=fun h=>by unfold leasesB;rw[h];rfl
 generalize leasesB ⟨term',stamp',next,ts,ls,ss,ds⟩=res at HB3 HFIN ⊢
 have HN:=Lib.hid (fun k (h:k< ls.length)=>leasOk_next (ts:=ts) (next:=next) h)
 have HX:=Lib.hid (fun k (h:k< ls.length)=>leasOk_bad (ts:=ts) (next:=next) h)
 have HL:Hid (∀k (h:k< ls.length),lastKey Lease.id 0 (ls.take (k+1))=ls[k].id):=fun k h=>lastKey_take (key:=Lease.id) (a:=0) h
 have HP:=Lib.hid (fun k=>lastKey_pos (ls:=ls) (ts:=ts) (next:=next) (k:=k))
 have H0:Hid (leasOk ts next (ls.take 0)=true):=rfl
 go_enter Tryz.func54,Tryz.ntmps54
 go_wp2
 go_loopw [3] (fun i wr=>∃k: Nat,k≤ls.length∧ i= .int .i64 k∧Hid (leasOk ts next (ls.take k)=true)∧Below (World.alloc w (.cells #[.int .i64 term,.int .i64 stamp,.int .i64 next,.slice a1 ts.length c1,.slice a2 ls.length c2,.slice a3 n3 c3,.slice a4 n4 c4] 27)).heap.size (World.alloc w (.cells #[.int .i64 term,.int .i64 stamp,.int .i64 next,.slice a1 ts.length c1,.slice a2 ls.length c2,.slice a3 n3 c3,.slice a4 n4 c4] 27)) wr) (fun i _=>ls.length- (intOf i).toNat)
 case atStart=>exact ⟨0,by omega,rfl,H0.out,Below.refl _ _⟩
 case round=>
  obtain⟨k,hk,rfl,hok,hb0⟩:=hrel
  have hb:Below w.heap.size w wr:=mid_alloc' hb0
  have hx3:=own_cells hb0
  have sx3:=Below.boxed hb0
  by_cases hlt:k< ls.length
  ·have HN1:=Lib.hid (HN.out k hlt hok.out)
   have HX1:=Lib.hid (HX.out k hlt)
   have HGE:=Lib.hid (HP.out k hok.out)
   have HPREV:Hid (∀j,k=j+ 1→∃(h:j< ls.length),lastKey Lease.id 0 (ls.take k)=ls[j].id):=fun j e=>by subst e;exact⟨by omega,HL.out j (by omega)⟩
   have HZERO:Hid (k=0→ lastKey Lease.id 0 (ls.take k)=0):=fun e=>by subst e;rfl
   obtain⟨b,o,rfl,hcs⟩:=atLea hr2 hlt
   have hx:=hcs _ hb
   generalize ls[k]=x at hx HN1 HX1
   generalize lastKey Lease.id 0 (ls.take k)=la at HN1 HX1 HGE HPREV HZERO
   clear hcs
   obtain⟨xid,xten,xsh,xep,xnu,xsz,xsp⟩:=x
   rcases hfd:findT ts xten with⟨⟨fid,frate,fburst,fbucket,fgone⟩,ok⟩
   have HFD:=Lib.hid hfd
   simp only[hfd]at HN1 HX1
   clear hfd
   go_wp2_with(go_at_call 92;((with_reducible refine(reffind_any ts a1 _ _ _ _ rfl hmax (hr1.below belo)).mono ?_);rw[HFD.out];rintro e w4 ⟨rfl,hb4⟩;have qx4:Below (World.alloc wr (.cells #[.int .i64 xid,.int .i64 xten,.int .i64 xsh,.int .i64 xep,.int .i64 xnu,.int .i64 xsz,.int .i64 xsp] 59)).heap.size (World.alloc wr (.cells #[.int .i64 xid,.int .i64 xten,.int .i64 xsh,.int .i64 xep,.int .i64 xnu,.int .i64 xsz,.int .i64 xsp] 59)) w4:=belo;have hx4:=own_cells qx4;have zx4:=own_frozen qx4;have sx4:=Below.boxed qx4;clear qx4;have hb5:Below (World.alloc w (.cells #[.int .i64 term,.int .i64 stamp,.int .i64 next,.slice a1 ts.length c1,.slice (some ⟨b,o,none⟩) ls.length c2,.slice a3 n3 c3,.slice a4 n4 c4] 27)).heap.size (World.alloc w (.cells #[.int .i64 term,.int .i64 stamp,.int .i64 next,.slice a1 ts.length c1,.slice (some ⟨b,o,none⟩) ls.length c2,.slice a3 n3 c3,.slice a4 n4 c4] 27)) w4:=belo;have hx5:=own_cells hb5;have sx5:=Below.boxed hb5))
   have HB5:=Lib.hid (show Below (World.alloc w (.cells #[.int .i64 term,.int .i64 stamp,.int .i64 next,.slice a1 ts.length c1,.slice (some ⟨b,o,none⟩) ls.length c2,.slice a3 n3 c3,.slice a4 n4 c4] 27)).heap.size (World.alloc w (.cells #[.int .i64 term,.int .i64 stamp,.int .i64 next,.slice a1 ts.length c1,.slice (some ⟨b,o,none⟩) ls.length c2,.slice a3 n3 c3,.slice a4 n4 c4] 27)) (w4.alloc (.cells #[.int .i64 fid,.int .i64 frate,.int .i64 fburst,.int .i64 fbucket,.bool fgone] 75))from hb5.alloc hb5.size _)
   have HB6:=Lib.hid (mid_alloc' HB5.out)
   have HW4:=Lib.hid (show Below w.heap.size w w4 from mid_alloc' hb5)
   clear hx3 sx3
   refine wp_region_quiet_lit (by kernel_rfl) (by kernel_rfl) ?_
   by_cases e1:xid< 1
   ·have HO:=Lib.hid (HB3.out (HX1.out (fun h=>by unfold leaP at h;have:=HGE.out;simp only at h;omega)))
    have d1:decide (xid<1)=true:= decide_eq_true e1
    repeat(go_big_quiet_step (fail))
    refine wpQuiet_nil ?_
    intro _ hw'
    obtain⟨nq,hw2⟩:=hw'
    subst hw2
    go_wp2
    go_returns
    exact⟨ret_bool HO.out.symm,below_drewN HB6.out _⟩
   have d1:decide (xid<1)=false:= decide_eq_false e1
   by_cases e2:next≤ xid
   ·have HO:=Lib.hid (HB3.out (HX1.out (fun h=>by unfold leaP at h;simp only at h;omega)))
    have d2:decide (next≤xid)=true:= decide_eq_true e2
    repeat(go_big_quiet_step (fail))
    refine wpQuiet_nil ?_
    intro _ hw'
    obtain⟨nq,hw2⟩:=hw'
    subst hw2
    go_wp2
    go_returns
    exact⟨ret_bool HO.out.symm,below_drewN HB6.out _⟩
   have d2:decide (next≤xid)=false:= decide_eq_false e2
   by_cases hk0:k= 0
   ·have HPV:Hid (la<xid):=by show la<xid;rw[HZERO.out hk0];omega
    have kz:decide ((0:Int)<(k:Int))=false:= by simp;omega
    have kz2:decide (0<k)=false:= by simp;omega
    clear hk0
    cases ok with
    |false=>
     have HO:=Lib.hid (HB3.out (HX1.out (fun h=>by have:=h.1;cases this)))
     repeat(go_big_quiet_step (fail))
     refine wpQuiet_nil ?_
     intro _ hw'
     obtain⟨nq,hw2⟩:=hw'
     subst hw2
     go_wp2
     go_returns
     exact⟨ret_bool HO.out.symm,below_drewN HB6.out _⟩
    |true=>
     by_cases c0:xsh< 1
     ·have HO:=Lib.hid (HB3.out (HX1.out (fun h=>by unfold leaP at h;have:=HPV.out;simp only at h;omega)))
      have d0:decide (xsh<1)=true:= decide_eq_true c0
      repeat(go_big_quiet_step (fail))
      refine wpQuiet_nil ?_
      intro _ hw'
      obtain⟨nq,hw2⟩:=hw'
      subst hw2
      go_wp2
      go_returns
      exact⟨ret_bool HO.out.symm,below_drewN HB6.out _⟩
     have d0:decide (xsh<1)=false:= decide_eq_false c0
     by_cases c1:8< xsh
     ·have HO:=Lib.hid (HB3.out (HX1.out (fun h=>by unfold leaP at h;have:=HPV.out;simp only at h;omega)))
      have d1:decide (8<xsh)=true:= decide_eq_true c1
      repeat(go_big_quiet_step (fail))
      refine wpQuiet_nil ?_
      intro _ hw'
      obtain⟨nq,hw2⟩:=hw'
      subst hw2
      go_wp2
      go_returns
      exact⟨ret_bool HO.out.symm,below_drewN HB6.out _⟩
     have d1:decide (8<xsh)=false:= decide_eq_false c1
     by_cases c2:xep< 1
     ·have HO:=Lib.hid (HB3.out (HX1.out (fun h=>by unfold leaP at h;have:=HPV.out;simp only at h;omega)))
      have d2:decide (xep<1)=true:= decide_eq_true c2
      repeat(go_big_quiet_step (fail))
      refine wpQuiet_nil ?_
      intro _ hw'
      obtain⟨nq,hw2⟩:=hw'
      subst hw2
      go_wp2
      go_returns
      exact⟨ret_bool HO.out.symm,below_drewN HB6.out _⟩
     have d2:decide (xep<1)=false:= decide_eq_false c2
     by_cases c3:xnu< 1
     ·have HO:=Lib.hid (HB3.out (HX1.out (fun h=>by unfold leaP at h;have:=HPV.out;simp only at h;omega)))
      have d3:decide (xnu<1)=true:= decide_eq_true c3
      repeat(go_big_quiet_step (fail))
      refine wpQuiet_nil ?_
      intro _ hw'
      obtain⟨nq,hw2⟩:=hw'
      subst hw2
      go_wp2
      go_returns
      exact⟨ret_bool HO.out.symm,below_drewN HB6.out _⟩
     have d3:decide (xnu<1)=false:= decide_eq_false c3
     by_cases c4:xsz< 1
     ·have HO:=Lib.hid (HB3.out (HX1.out (fun h=>by unfold leaP at h;have:=HPV.out;simp only at h;omega)))
      have d4:decide (xsz<1)=true:= decide_eq_true c4
      repeat(go_big_quiet_step (fail))
      refine wpQuiet_nil ?_
      intro _ hw'
      obtain⟨nq,hw2⟩:=hw'
      subst hw2
      go_wp2
      go_returns
      exact⟨ret_bool HO.out.symm,below_drewN HB6.out _⟩
     have d4:decide (xsz<1)=false:= decide_eq_false c4
     by_cases c5:1000000< xsz
     ·have HO:=Lib.hid (HB3.out (HX1.out (fun h=>by unfold leaP at h;have:=HPV.out;simp only at h;omega)))
      have d5:decide (1000000<xsz)=true:= decide_eq_true c5
      repeat(go_big_quiet_step (fail))
      refine wpQuiet_nil ?_
      intro _ hw'
      obtain⟨nq,hw2⟩:=hw'
      subst hw2
      go_wp2
      go_returns
      exact⟨ret_bool HO.out.symm,below_drewN HB6.out _⟩
     have d5:decide (1000000<xsz)=false:= decide_eq_false c5
     by_cases c6:xsp< 0
     ·have HO:=Lib.hid (HB3.out (HX1.out (fun h=>by unfold leaP at h;have:=HPV.out;simp only at h;omega)))
      have d6:decide (xsp<0)=true:= decide_eq_true c6
      repeat(go_big_quiet_step (fail))
      refine wpQuiet_nil ?_
      intro _ hw'
      obtain⟨nq,hw2⟩:=hw'
      subst hw2
      go_wp2
      go_returns
      exact⟨ret_bool HO.out.symm,below_drewN HB6.out _⟩
     have d6:decide (xsp<0)=false:= decide_eq_false c6
     by_cases c7:xsz≤ xsp
     ·have HO:=Lib.hid (HB3.out (HX1.out (fun h=>by unfold leaP at h;have:=HPV.out;simp only at h;omega)))
      have d7:decide (xsz≤xsp)=true:= decide_eq_true c7
      repeat(go_big_quiet_step (fail))
      refine wpQuiet_nil ?_
      intro _ hw'
      obtain⟨nq,hw2⟩:=hw'
      subst hw2
      go_wp2
      go_returns
      exact⟨ret_bool HO.out.symm,below_drewN HB6.out _⟩
     have d7:decide (xsz≤xsp)=false:= decide_eq_false c7
     have HN2:=Lib.hid (HN1.out (by unfold leaP;have:=HPV.out;refine⟨rfl,?_⟩;simp only;omega))
     repeat(go_big_quiet_step (fail))
     refine wpQuiet_nil ?_
     intro _ hw'
     obtain⟨nq,hw2⟩:=hw'
     subst hw2
     go_wp2
     go_roundw
     case rel=>exact ⟨k+1,by omega,by go_num,HN2.out,below_drewN HB5.out _⟩
     case measure=>simp [intOf];omega
   ·obtain⟨hj,hla⟩:=HPREV.out (k-1) (by omega)
    have kp:(0:Int)<(k:Int):=by omega
    have kp2:0< k:=by omega
    obtain⟨b',o',e',hcs'⟩:=atLea hr2 hj
    simp only[Option.some.injEq,Addr.mk.injEq,and_true]at e'
    obtain⟨rfl,rfl⟩:=e'
    have hx6:=(hcs' _ HW4.out).1
    have hblt:b< w4.heap.size:=World.block_lt_of_cell? _ _ hx6
    rw[←hla]at hx6
    have W1:IntKind.i64.wrap ((k:Int)-1)=(k:Int)-1:= IntWalk.i64_in _ ⟨by omega,by omega⟩
    have W2:(0:Int)≤(k:Int)-1:= by omega
    have W3:((k:Int)-1).toNat=k- 1:=by omega
    have W4:(k:Int)-1< (ls.length:Int):=by omega
    clear hcs' hk0 hla
    by_cases e3:xid≤ la
    ·have HO:=Lib.hid (HB3.out (HX1.out (fun h=>by unfold leaP at h;simp only at h;omega)))
     have d3:decide (xid≤la)=true:= decide_eq_true e3
     repeat(go_big_quiet_step (fail))
     refine wpQuiet_nil ?_
     intro _ hw'
     obtain⟨nq,hw2⟩:=hw'
     subst hw2
     go_wp2
     go_returns
     exact⟨ret_bool HO.out.symm,below_drewN HB6.out _⟩
    have d3:decide (xid≤la)=false:= decide_eq_false e3
    have HPV:Hid (la<xid):=by show la<xid;omega
    cases ok with
    |false=>
     have HO:=Lib.hid (HB3.out (HX1.out (fun h=>by have:=h.1;cases this)))
     repeat(go_big_quiet_step (fail))
     refine wpQuiet_nil ?_
     intro _ hw'
     obtain⟨nq,hw2⟩:=hw'
     subst hw2
     go_wp2
     go_returns
     exact⟨ret_bool HO.out.symm,below_drewN HB6.out _⟩
    |true=>
     by_cases c0:xsh< 1
     ·have HO:=Lib.hid (HB3.out (HX1.out (fun h=>by unfold leaP at h;have:=HPV.out;simp only at h;omega)))
      have d0:decide (xsh<1)=true:= decide_eq_true c0
      repeat(go_big_quiet_step (fail))
      refine wpQuiet_nil ?_
      intro _ hw'
      obtain⟨nq,hw2⟩:=hw'
      subst hw2
      go_wp2
      go_returns
      exact⟨ret_bool HO.out.symm,below_drewN HB6.out _⟩
     have d0:decide (xsh<1)=false:= decide_eq_false c0
     by_cases c1:8< xsh
     ·have HO:=Lib.hid (HB3.out (HX1.out (fun h=>by unfold leaP at h;have:=HPV.out;simp only at h;omega)))
      have d1:decide (8<xsh)=true:= decide_eq_true c1
      repeat(go_big_quiet_step (fail))
      refine wpQuiet_nil ?_
      intro _ hw'
      obtain⟨nq,hw2⟩:=hw'
      subst hw2
      go_wp2
      go_returns
      exact⟨ret_bool HO.out.symm,below_drewN HB6.out _⟩
     have d1:decide (8<xsh)=false:= decide_eq_false c1
     by_cases c2:xep< 1
     ·have HO:=Lib.hid (HB3.out (HX1.out (fun h=>by unfold leaP at h;have:=HPV.out;simp only at h;omega)))
      have d2:decide (xep<1)=true:= decide_eq_true c2
      repeat(go_big_quiet_step (fail))
      refine wpQuiet_nil ?_
      intro _ hw'
      obtain⟨nq,hw2⟩:=hw'
      subst hw2
      go_wp2
      go_returns
      exact⟨ret_bool HO.out.symm,below_drewN HB6.out _⟩
     have d2:decide (xep<1)=false:= decide_eq_false c2
     by_cases c3:xnu< 1
     ·have HO:=Lib.hid (HB3.out (HX1.out (fun h=>by unfold leaP at h;have:=HPV.out;simp only at h;omega)))
      have d3:decide (xnu<1)=true:= decide_eq_true c3
      repeat(go_big_quiet_step (fail))
      refine wpQuiet_nil ?_
      intro _ hw'
      obtain⟨nq,hw2⟩:=hw'
      subst hw2
      go_wp2
      go_returns
      exact⟨ret_bool HO.out.symm,below_drewN HB6.out _⟩
     have d3:decide (xnu<1)=false:= decide_eq_false c3
     by_cases c4:xsz< 1
     ·have HO:=Lib.hid (HB3.out (HX1.out (fun h=>by unfold leaP at h;have:=HPV.out;simp only at h;omega)))
      have d4:decide (xsz<1)=true:= decide_eq_true c4
      repeat(go_big_quiet_step (fail))
      refine wpQuiet_nil ?_
      intro _ hw'
      obtain⟨nq,hw2⟩:=hw'
      subst hw2
      go_wp2
      go_returns
      exact⟨ret_bool HO.out.symm,below_drewN HB6.out _⟩
     have d4:decide (xsz<1)=false:= decide_eq_false c4
     by_cases c5:1000000< xsz
     ·have HO:=Lib.hid (HB3.out (HX1.out (fun h=>by unfold leaP at h;have:=HPV.out;simp only at h;omega)))
      have d5:decide (1000000<xsz)=true:= decide_eq_true c5
      repeat(go_big_quiet_step (fail))
      refine wpQuiet_nil ?_
      intro _ hw'
      obtain⟨nq,hw2⟩:=hw'
      subst hw2
      go_wp2
      go_returns
      exact⟨ret_bool HO.out.symm,below_drewN HB6.out _⟩
     have d5:decide (1000000<xsz)=false:= decide_eq_false c5
     by_cases c6:xsp< 0
     ·have HO:=Lib.hid (HB3.out (HX1.out (fun h=>by unfold leaP at h;have:=HPV.out;simp only at h;omega)))
      have d6:decide (xsp<0)=true:= decide_eq_true c6
      repeat(go_big_quiet_step (fail))
      refine wpQuiet_nil ?_
      intro _ hw'
      obtain⟨nq,hw2⟩:=hw'
      subst hw2
      go_wp2
      go_returns
      exact⟨ret_bool HO.out.symm,below_drewN HB6.out _⟩
     have d6:decide (xsp<0)=false:= decide_eq_false c6
     by_cases c7:xsz≤ xsp
     ·have HO:=Lib.hid (HB3.out (HX1.out (fun h=>by unfold leaP at h;have:=HPV.out;simp only at h;omega)))
      have d7:decide (xsz≤xsp)=true:= decide_eq_true c7
      repeat(go_big_quiet_step (fail))
      refine wpQuiet_nil ?_
      intro _ hw'
      obtain⟨nq,hw2⟩:=hw'
      subst hw2
      go_wp2
      go_returns
      exact⟨ret_bool HO.out.symm,below_drewN HB6.out _⟩
     have d7:decide (xsz≤xsp)=false:= decide_eq_false c7
     have HN2:=Lib.hid (HN1.out (by unfold leaP;have:=HPV.out;refine⟨rfl,?_⟩;simp only;omega))
     repeat(go_big_quiet_step (fail))
     refine wpQuiet_nil ?_
     intro _ hw'
     obtain⟨nq,hw2⟩:=hw'
     subst hw2
     go_wp2
     go_roundw
     case rel=>exact ⟨k+1,by omega,by go_num,HN2.out,below_drewN HB5.out _⟩
     case measure=>simp [intOf];omega
  ·obtain rfl:k= ls.length:=by omega
   have hlk:leasOk ts next ls=true:= by have:=hok.out;rw[List.take_length]at this;exact this
   have HO:=Lib.hid (HFIN.out hlk)
   clear hlk
   by_cases g1:ls.length≤ 64
   ·by_cases g2:1≤ next
    ·go_wp2
     go_returns
     exact⟨ret_bool (by rw[←HO.out,Bool.eq_iff_iff];simp only[decide_eq_true_iff];omega),hb⟩
    ·go_wp2
     go_returns
     exact⟨ret_bool (by rw[←HO.out];symm;exact decide_eq_false (by omega)),hb⟩
   ·go_wp2
    go_returns
    exact⟨ret_bool (by rw[←HO.out];symm;exact decide_eq_false (by omega)),hb⟩
end Go.Proofs.YtfdmhpohfjbpfaaGreat
