import Derived.Test.YtfdmhpohfjbpfaaGreatSq03
set_option linter.unusedVariables false
set_option linter.unusedSimpArgs false
namespace Go.Proofs.YtfdmhpohfjbpfaaGreat
open Go.ChangeShapes Go.WideShapes Go.ChangeAt Go.RowKit
set_option maxRecDepth 100000
def idB (n:Int):Bool:= decide (1≤n∧ n≤16)
theorem refid_any (n:Int) (w:World):Calls Tryz.prog 95 #[.int .i64 n] w fun e w'=>e= .returned (.bool (idB n))∧w= w':=by
 go_each [1≤n,n≤16]=>(
  go_enter Tryz.func95,Tryz.ntmps95
  go_wp2
  go_returns
  refine⟨ret_bool ?_,rfl⟩
  unfold idB
  first|(refine(decide_eq_true ?_).symm;omega)|(refine(decide_eq_false ?_).symm;omega)|(rw[Bool.eq_iff_iff];simp only[decide_eq_true_iff,Bool.and_eq_true];omega))
theorem refid_q (n:Int) (w:World) (b:Bool) (hb:idB n=b):Calls Tryz.prog 95 #[.int .i64 n] w fun e w'=>e= .returned (.bool b)∧w'= w:=
 (refid_any n w).mono fun _ _ h=>⟨by rw[h.1,hb],h.2.symm⟩
theorem refmay_q (r bu:Int) (w:World) (b:Bool) (hb:mayB r bu=b):Calls Tryz.prog 96 #[.int .i64 r,.int .i64 bu] w fun e w'=>e= .returned (.bool b)∧w'= w:=
 (refmay_any r bu w).mono fun _ _ h=>⟨by rw[h.1,hb],h.2.symm⟩
set_option maxHeartbeats 4000000 in
theorem refcheck_any (ts:List Tenant) (a:Option Addr) (n c:Nat) (w:World) (hn:ts.length= n) (hl:ts.length≤ maxLen) (hr:TRow w a ts):
 Calls Tryz.prog 53 #[.slice a n c] w fun e w'=>e= .returned (.bool (tensOk 0 ts))∧Below w.heap.size w w':=by
 subst hn
 have hl2:=lt_maxLen hl
 go_enter Tryz.func53,Tryz.ntmps53
 go_wp2
 go_loopw [3] (fun i wr=>∃k: Nat,k≤ts.length∧ i= .int .i64 k∧tensOk 0 (ts.take k)=true∧ Below w.heap.size w wr) (fun i _=>ts.length- (intOf i).toNat)
 case atStart=>exact ⟨0,by omega,rfl,rfl,Below.refl _ _⟩
 case round=>
  obtain⟨k,hk,rfl,hok,hb⟩:=hrel
  have HOK:=Lib.hid hok
  clear hok
  by_cases hlt:k< ts.length
  ·obtain⟨b,o,rfl,hcs⟩:=hr.at hlt
   obtain⟨h0,h1,h2,h3,h4⟩:=hcs _ hb
   have hbl:b< wr.heap.size:=World.block_lt_of_cell? _ _ h0
   have hlast0:=lastId_nonneg HOK.out
   have HLAST:=Lib.hid hlast0
   clear hcs hlast0
   go_wp2
   refine wp_region_quiet_lit (by kernel_rfl) (by kernel_rfl) ?_
   cases hid:idB ts[k].id with
   |false=>
    have HID:=Lib.hid hid
    have HTEN:Hid (tenOk (lastId (ts.take k)) ts[k]=false):=tenOk_ask1 (fun h=>by unfold idB at hid;have:=of_decide_eq_false hid;have:=HLAST.out;omega)
    have HM:Hid (mayB ts[k].rate ts[k].burst=mayB ts[k].rate ts[k].burst):=rfl
    clear hid
    repeat(go_big_quiet_step (first|(go_at_call 95;exact Calls.quiet_of_same (refid_q _ _ _ HID.out))|(go_at_call 96;exact Calls.quiet_of_same (refmay_q _ _ _ _ HM.out))))
    refine wpQuiet_nil ?_
    intro _ hw'
    obtain⟨nq,hw2⟩:=hw'
    subst hw2
    go_wp2
    go_returns
    exact⟨ret_bool (tensOk_bad hlt HTEN.out).symm,below_drewN (hb.alloc hb.size _) _⟩
   |true=>
    have HID:=Lib.hid hid
    have hid1:=of_decide_eq_true hid
    have HID1:=Lib.hid hid1
    clear hid hid1
    by_cases hk0:k= 0
    ·have HA:Hid (lastId (ts.take k)<ts[k].id):=by
      show lastId (ts.take k)<_
      have h5:=HID1.out
      have h6:lastId (ts.take k)=0:= by rw[hk0];rfl
      rw[h6];omega
     have kz:decide ((0:Int)<(k:Int))=false:= by simp;omega
     have kz2:decide (0<k)=false:= by simp;omega
     clear hk0
     cases hm:mayB ts[k].rate ts[k].burst with
     |false=>
      have HM:=Lib.hid hm
      have HTEN:Hid (tenOk (lastId (ts.take k)) ts[k]=false):=tenOk_ask2 hm
      clear hm
      repeat(go_big_quiet_step (first|(go_at_call 95;exact Calls.quiet_of_same (refid_q _ _ _ HID.out))|(go_at_call 96;exact Calls.quiet_of_same (refmay_q _ _ _ _ HM.out))))
      refine wpQuiet_nil ?_
      intro _ hw'
      obtain⟨nq,hw2⟩:=hw'
      subst hw2
      go_wp2
      go_returns
      exact⟨ret_bool (tensOk_bad hlt HTEN.out).symm,below_drewN (hb.alloc hb.size _) _⟩
     |true=>
      have HM:=Lib.hid hm
      clear hm
      by_cases hb0:ts[k].bucket<0
      ·have HTEN:Hid (tenOk (lastId (ts.take k)) ts[k]=false):=tenOk_ask3 (by omega)
       repeat(go_big_quiet_step (first|(go_at_call 95;exact Calls.quiet_of_same (refid_q _ _ _ HID.out))|(go_at_call 96;exact Calls.quiet_of_same (refmay_q _ _ _ _ HM.out))))
       refine wpQuiet_nil ?_
       intro _ hw'
       obtain⟨nq,hw2⟩:=hw'
       subst hw2
       go_wp2
       go_returns
       exact⟨ret_bool (tensOk_bad hlt HTEN.out).symm,below_drewN (hb.alloc hb.size _) _⟩
      by_cases hb1:1000000000< ts[k].bucket
      ·have HTEN:Hid (tenOk (lastId (ts.take k)) ts[k]=false):=tenOk_ask3 (by omega)
       repeat(go_big_quiet_step (first|(go_at_call 95;exact Calls.quiet_of_same (refid_q _ _ _ HID.out))|(go_at_call 96;exact Calls.quiet_of_same (refmay_q _ _ _ _ HM.out))))
       refine wpQuiet_nil ?_
       intro _ hw'
       obtain⟨nq,hw2⟩:=hw'
       subst hw2
       go_wp2
       go_returns
       exact⟨ret_bool (tensOk_bad hlt HTEN.out).symm,below_drewN (hb.alloc hb.size _) _⟩
      cases hgone:ts[k].gone with
      |false=>
       have HTEN:Hid (tenOk (lastId (ts.take k)) ts[k]=true):=tenOk_mk (by have:=HID1.out;have:=HA.out;omega) HM.out (by omega) (.inl hgone)
       repeat(go_big_quiet_step (first|(go_at_call 95;exact Calls.quiet_of_same (refid_q _ _ _ HID.out))|(go_at_call 96;exact Calls.quiet_of_same (refmay_q _ _ _ _ HM.out))))
       refine wpQuiet_nil ?_
       intro _ hw'
       obtain⟨nq,hw2⟩:=hw'
       subst hw2
       go_wp2
       go_roundw
       case rel=>exact ⟨k+1,by omega,by go_num,by rw[tensOk_take hlt,HOK.out,HTEN.out];rfl,below_drewN (hb.alloc hb.size _) _⟩
       case measure=>simp [intOf];omega
      |true=>
       by_cases hz_rate:¬ts[k].rate=0
       ·have HTEN:Hid (tenOk (lastId (ts.take k)) ts[k]=false):=tenOk_ask4 hgone (fun h=>hz_rate (by first|exact h.1|exact h.2.1|exact h.2.2))
        have hne_rate:(ts[k].rate !=0)=true:= by simpa using hz_rate
        clear hz_rate
        repeat(go_big_quiet_step (first|(go_at_call 95;exact Calls.quiet_of_same (refid_q _ _ _ HID.out))|(go_at_call 96;exact Calls.quiet_of_same (refmay_q _ _ _ _ HM.out))))
        refine wpQuiet_nil ?_
        intro _ hw'
        obtain⟨nq,hw2⟩:=hw'
        subst hw2
        go_wp2
        go_returns
        exact⟨ret_bool (tensOk_bad hlt HTEN.out).symm,below_drewN (hb.alloc hb.size _) _⟩
       have he_rate:(ts[k].rate !=0)=false:= by simpa using hz_rate
       have HZ_rate:=Lib.hid (Classical.not_not.1 hz_rate)
       clear hz_rate
       by_cases hz_burst:¬ts[k].burst=0
       ·have HTEN:Hid (tenOk (lastId (ts.take k)) ts[k]=false):=tenOk_ask4 hgone (fun h=>hz_burst (by first|exact h.1|exact h.2.1|exact h.2.2))
        have hne_burst:(ts[k].burst !=0)=true:= by simpa using hz_burst
        clear hz_burst
        repeat(go_big_quiet_step (first|(go_at_call 95;exact Calls.quiet_of_same (refid_q _ _ _ HID.out))|(go_at_call 96;exact Calls.quiet_of_same (refmay_q _ _ _ _ HM.out))))
        refine wpQuiet_nil ?_
        intro _ hw'
        obtain⟨nq,hw2⟩:=hw'
        subst hw2
        go_wp2
        go_returns
        exact⟨ret_bool (tensOk_bad hlt HTEN.out).symm,below_drewN (hb.alloc hb.size _) _⟩
       have he_burst:(ts[k].burst !=0)=false:= by simpa using hz_burst
       have HZ_burst:=Lib.hid (Classical.not_not.1 hz_burst)
       clear hz_burst
       by_cases hz_bucket:¬ts[k].bucket=0
       ·have HTEN:Hid (tenOk (lastId (ts.take k)) ts[k]=false):=tenOk_ask4 hgone (fun h=>hz_bucket (by first|exact h.1|exact h.2.1|exact h.2.2))
        have hne_bucket:(ts[k].bucket !=0)=true:= by simpa using hz_bucket
        clear hz_bucket
        repeat(go_big_quiet_step (first|(go_at_call 95;exact Calls.quiet_of_same (refid_q _ _ _ HID.out))|(go_at_call 96;exact Calls.quiet_of_same (refmay_q _ _ _ _ HM.out))))
        refine wpQuiet_nil ?_
        intro _ hw'
        obtain⟨nq,hw2⟩:=hw'
        subst hw2
        go_wp2
        go_returns
        exact⟨ret_bool (tensOk_bad hlt HTEN.out).symm,below_drewN (hb.alloc hb.size _) _⟩
       have he_bucket:(ts[k].bucket !=0)=false:= by simpa using hz_bucket
       have HZ_bucket:=Lib.hid (Classical.not_not.1 hz_bucket)
       clear hz_bucket
       have HTEN:Hid (tenOk (lastId (ts.take k)) ts[k]=true):=tenOk_mk (by have:=HID1.out;have:=HA.out;omega) HM.out (by omega) (.inr ⟨HZ_rate.out,HZ_burst.out,HZ_bucket.out⟩)
       repeat(go_big_quiet_step (first|(go_at_call 95;exact Calls.quiet_of_same (refid_q _ _ _ HID.out))|(go_at_call 96;exact Calls.quiet_of_same (refmay_q _ _ _ _ HM.out))))
       refine wpQuiet_nil ?_
       intro _ hw'
       obtain⟨nq,hw2⟩:=hw'
       subst hw2
       go_wp2
       go_roundw
       case rel=>exact ⟨k+1,by omega,by go_num,by rw[tensOk_take hlt,HOK.out,HTEN.out];rfl,below_drewN (hb.alloc hb.size _) _⟩
       case measure=>simp [intOf];omega
    ·have hprev:lastId (ts.take k)=ts[k-1].id:=by
      have:=lastId_take (l:=ts) (k:=k- 1) (by omega)
      rwa [show k-1+ 1=k from by omega]at this
     have HPREV:=Lib.hid hprev
     clear hprev
     have kp:(0:Int)<(k:Int):=by omega
     have kp2:0< k:=by omega
     obtain⟨b',o',hba,hcs⟩:=hr.at (k:=k- 1) (by omega)
     simp only[Option.some.injEq,Addr.mk.injEq,and_true]at hba
     obtain⟨rfl,rfl⟩:=hba
     obtain⟨p0,_,_,_,_⟩:=hcs _ hb
     have W1:IntKind.i64.wrap ((k:Int)-1)=(k:Int)-1:= IntWalk.i64_in _ ⟨by omega,by omega⟩
     have W2:(0:Int)≤(k:Int)-1:= by omega
     have W3:((k:Int)-1).toNat=k- 1:=by omega
     have W4:(k:Int)-1< (ts.length:Int):=by omega
     clear hcs hk0
     by_cases hge:ts[k].id≤ts[k-1].id
     ·have HTEN:Hid (tenOk (lastId (ts.take k)) ts[k]=false):=tenOk_ask1 (fun h=>by rw[HPREV.out]at h;omega)
      have HM:Hid (mayB ts[k].rate ts[k].burst=mayB ts[k].rate ts[k].burst):=rfl
      repeat(go_big_quiet_step (first|(go_at_call 95;exact Calls.quiet_of_same (refid_q _ _ _ HID.out))|(go_at_call 96;exact Calls.quiet_of_same (refmay_q _ _ _ _ HM.out))))
      refine wpQuiet_nil ?_
      intro _ hw'
      obtain⟨nq,hw2⟩:=hw'
      subst hw2
      go_wp2
      go_returns
      exact⟨ret_bool (tensOk_bad hlt HTEN.out).symm,below_drewN (hb.alloc hb.size _) _⟩
     have HA:Hid (lastId (ts.take k)<ts[k].id):=by show _<_;rw[HPREV.out];omega
     cases hm:mayB ts[k].rate ts[k].burst with
     |false=>
      have HM:=Lib.hid hm
      have HTEN:Hid (tenOk (lastId (ts.take k)) ts[k]=false):=tenOk_ask2 hm
      clear hm
      repeat(go_big_quiet_step (first|(go_at_call 95;exact Calls.quiet_of_same (refid_q _ _ _ HID.out))|(go_at_call 96;exact Calls.quiet_of_same (refmay_q _ _ _ _ HM.out))))
      refine wpQuiet_nil ?_
      intro _ hw'
      obtain⟨nq,hw2⟩:=hw'
      subst hw2
      go_wp2
      go_returns
      exact⟨ret_bool (tensOk_bad hlt HTEN.out).symm,below_drewN (hb.alloc hb.size _) _⟩
     |true=>
      have HM:=Lib.hid hm
      clear hm
      by_cases hb0:ts[k].bucket<0
      ·have HTEN:Hid (tenOk (lastId (ts.take k)) ts[k]=false):=tenOk_ask3 (by omega)
       repeat(go_big_quiet_step (first|(go_at_call 95;exact Calls.quiet_of_same (refid_q _ _ _ HID.out))|(go_at_call 96;exact Calls.quiet_of_same (refmay_q _ _ _ _ HM.out))))
       refine wpQuiet_nil ?_
       intro _ hw'
       obtain⟨nq,hw2⟩:=hw'
       subst hw2
       go_wp2
       go_returns
       exact⟨ret_bool (tensOk_bad hlt HTEN.out).symm,below_drewN (hb.alloc hb.size _) _⟩
      by_cases hb1:1000000000< ts[k].bucket
      ·have HTEN:Hid (tenOk (lastId (ts.take k)) ts[k]=false):=tenOk_ask3 (by omega)
       repeat(go_big_quiet_step (first|(go_at_call 95;exact Calls.quiet_of_same (refid_q _ _ _ HID.out))|(go_at_call 96;exact Calls.quiet_of_same (refmay_q _ _ _ _ HM.out))))
       refine wpQuiet_nil ?_
       intro _ hw'
       obtain⟨nq,hw2⟩:=hw'
       subst hw2
       go_wp2
       go_returns
       exact⟨ret_bool (tensOk_bad hlt HTEN.out).symm,below_drewN (hb.alloc hb.size _) _⟩
      cases hgone:ts[k].gone with
      |false=>
       have HTEN:Hid (tenOk (lastId (ts.take k)) ts[k]=true):=tenOk_mk (by have:=HID1.out;have:=HA.out;omega) HM.out (by omega) (.inl hgone)
       repeat(go_big_quiet_step (first|(go_at_call 95;exact Calls.quiet_of_same (refid_q _ _ _ HID.out))|(go_at_call 96;exact Calls.quiet_of_same (refmay_q _ _ _ _ HM.out))))
       refine wpQuiet_nil ?_
       intro _ hw'
       obtain⟨nq,hw2⟩:=hw'
       subst hw2
       go_wp2
       go_roundw
       case rel=>exact ⟨k+1,by omega,by go_num,by rw[tensOk_take hlt,HOK.out,HTEN.out];rfl,below_drewN (hb.alloc hb.size _) _⟩
       case measure=>simp [intOf];omega
      |true=>
       by_cases hz_rate:¬ts[k].rate=0
       ·have HTEN:Hid (tenOk (lastId (ts.take k)) ts[k]=false):=tenOk_ask4 hgone (fun h=>hz_rate (by first|exact h.1|exact h.2.1|exact h.2.2))
        have hne_rate:(ts[k].rate !=0)=true:= by simpa using hz_rate
        clear hz_rate
        repeat(go_big_quiet_step (first|(go_at_call 95;exact Calls.quiet_of_same (refid_q _ _ _ HID.out))|(go_at_call 96;exact Calls.quiet_of_same (refmay_q _ _ _ _ HM.out))))
        refine wpQuiet_nil ?_
        intro _ hw'
        obtain⟨nq,hw2⟩:=hw'
        subst hw2
        go_wp2
        go_returns
        exact⟨ret_bool (tensOk_bad hlt HTEN.out).symm,below_drewN (hb.alloc hb.size _) _⟩
       have he_rate:(ts[k].rate !=0)=false:= by simpa using hz_rate
       have HZ_rate:=Lib.hid (Classical.not_not.1 hz_rate)
       clear hz_rate
       by_cases hz_burst:¬ts[k].burst=0
       ·have HTEN:Hid (tenOk (lastId (ts.take k)) ts[k]=false):=tenOk_ask4 hgone (fun h=>hz_burst (by first|exact h.1|exact h.2.1|exact h.2.2))
        have hne_burst:(ts[k].burst !=0)=true:= by simpa using hz_burst
        clear hz_burst
        repeat(go_big_quiet_step (first|(go_at_call 95;exact Calls.quiet_of_same (refid_q _ _ _ HID.out))|(go_at_call 96;exact Calls.quiet_of_same (refmay_q _ _ _ _ HM.out))))
        refine wpQuiet_nil ?_
        intro _ hw'
        obtain⟨nq,hw2⟩:=hw'
        subst hw2
        go_wp2
        go_returns
        exact⟨ret_bool (tensOk_bad hlt HTEN.out).symm,below_drewN (hb.alloc hb.size _) _⟩
       have he_burst:(ts[k].burst !=0)=false:= by simpa using hz_burst
       have HZ_burst:=Lib.hid (Classical.not_not.1 hz_burst)
       clear hz_burst
       by_cases hz_bucket:¬ts[k].bucket=0
       ·have HTEN:Hid (tenOk (lastId (ts.take k)) ts[k]=false):=tenOk_ask4 hgone (fun h=>hz_bucket (by first|exact h.1|exact h.2.1|exact h.2.2))
        have hne_bucket:(ts[k].bucket !=0)=true:= by simpa using hz_bucket
        clear hz_bucket
        repeat(go_big_quiet_step (first|(go_at_call 95;exact Calls.quiet_of_same (refid_q _ _ _ HID.out))|(go_at_call 96;exact Calls.quiet_of_same (refmay_q _ _ _ _ HM.out))))
        refine wpQuiet_nil ?_
        intro _ hw'
        obtain⟨nq,hw2⟩:=hw'
        subst hw2
        go_wp2
        go_returns
        exact⟨ret_bool (tensOk_bad hlt HTEN.out).symm,below_drewN (hb.alloc hb.size _) _⟩
       have he_bucket:(ts[k].bucket !=0)=false:= by simpa using hz_bucket
       have HZ_bucket:=Lib.hid (Classical.not_not.1 hz_bucket)
       clear hz_bucket
       have HTEN:Hid (tenOk (lastId (ts.take k)) ts[k]=true):=tenOk_mk (by have:=HID1.out;have:=HA.out;omega) HM.out (by omega) (.inr ⟨HZ_rate.out,HZ_burst.out,HZ_bucket.out⟩)
       repeat(go_big_quiet_step (first|(go_at_call 95;exact Calls.quiet_of_same (refid_q _ _ _ HID.out))|(go_at_call 96;exact Calls.quiet_of_same (refmay_q _ _ _ _ HM.out))))
       refine wpQuiet_nil ?_
       intro _ hw'
       obtain⟨nq,hw2⟩:=hw'
       subst hw2
       go_wp2
       go_roundw
       case rel=>exact ⟨k+1,by omega,by go_num,by rw[tensOk_take hlt,HOK.out,HTEN.out];rfl,below_drewN (hb.alloc hb.size _) _⟩
       case measure=>simp [intOf];omega
  ·go_wp2
   go_returns
   exact⟨ret_bool (by have:=HOK.out;rw[List.take_of_length_le (by omega)]at this;exact this.symm),hb⟩
end Go.Proofs.YtfdmhpohfjbpfaaGreat
