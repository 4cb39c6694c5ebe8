import Derived.Test.YtfdmhpohfjbpfaaGreatSqRefCheck
set_option linter.unusedVariables false
set_option linter.unusedSimpArgs false
namespace Go.Proofs.YtfdmhpohfjbpfaaGreat
open Go.ChangeShapes Go.WideShapes Go.ChangeAt Go.RowKit
set_option maxRecDepth 100000
theorem findT_bad {ts:List Tenant} {id:Int} (h:tensOk 0 ts=false):findT ts id=(zeroT,false):=by
 unfold findT;split
 ·rw[h];rfl
 ·rfl
theorem findT_none {ts:List Tenant} {id:Int} (h:∀j (hj:j< ts.length),(ts[j].id==id)=false):findT ts id=(zeroT,false):=by
 have:ts.findIdx? (fun x=>x.id== id)=none:= by
  rw[List.findIdx?_eq_none_iff]
  intro x hx
  obtain⟨j,hj,rfl⟩:=List.mem_iff_getElem.1 hx
  exact h j hj
 unfold findT;rw[this]
theorem findT_some {ts:List Tenant} {id:Int} {k:Nat} (hk:k< ts.length) (ht:tensOk 0 ts=true) (hno:∀j (hj:j< ts.length),j<k→ (ts[j].id==id)=false) (h:(ts[k].id==id)=true):findT ts id=(ts[k],true):=by
 have:ts.findIdx? (fun x=>x.id== id)=some k:=by
  rw[List.findIdx?_eq_some_iff_getElem]
  exact⟨hk,h,fun j hj=>by rw[hno j (by omega) hj];simp⟩
 unfold findT;rw[this]
 show(if tensOk 0 ts=true then _ else _)=_
 rw[ht,if_pos rfl,List.getElem?_eq_getElem hk];rfl
set_option maxHeartbeats 1000000 in
theorem reffind_any (ts:List Tenant) (a:Option Addr) (n c:Nat) (id:Int) (w:World) (hn:ts.length= n) (hl:ts.length≤ maxLen) (hr:TRow w a ts):
 Calls Tryz.prog 92 #[.slice a n c,.int .i64 id] w (RetTF w (findT ts id)):=by
 subst hn
 have hl2:=lt_maxLen hl
 have hr1:TRow (w.alloc (.cells #[.int .i64 0,.int .i64 0,.int .i64 0,.int .i64 0,.bool false] 75)) a ts:=Row.alloc hr _
 cases ht:tensOk 0 ts with
 |false=>
  have HT:=Lib.hid ht
  have HW:Hid (findT ts id=(zeroT,false)):=findT_bad ht
  clear ht
  generalize findT ts id=out at HW ⊢
  by_cases h0:ts.length= 0
  ·obtain rfl:ts= []:=List.eq_nil_of_length_eq_zero h0
   clear hl hl2 h0
   go_enter Tryz.func92,Tryz.ntmps92
   go_wp2
   refine wp_loop_rounds 1 ?_
   rw[rounds_succ]
   go_wp2
   (try simp only[Exit.inBlock,Exit.then])
   refine bodyPost_ret (v:= .tuple #[zeroT.agg,.bool false]) (by simp[results,Tryz.results92,go_sem,zeroT]) rfl ?_
   exact⟨by rw[HW.out],by go_grown⟩
  ·have hp:0< ts.length:=by omega
   clear h0
   go_enter Tryz.func92,Tryz.ntmps92
   go_wp2
   refine wp_loop_rounds 1 ?_
   rw[rounds_succ]
   go_wp2_with(go_at_call 53;((with_reducible refine(refcheck_any ts _ _ _ _ rfl hl hr1).mono ?_);rw[HT.out];rintro e w3 ⟨rfl,hb3⟩;have hcl:=own_cells hb3;have hfz:=own_frozen hb3))
   (try simp only[Exit.inBlock,Exit.then])
   refine bodyPost_ret (v:= .tuple #[zeroT.agg,.bool false]) (by simp[results,Tryz.results92,go_sem,hcl,zeroT]) rfl ?_
   have hb5:=((Below.refl w.heap.size w).alloc (Nat.le_refl _) _).trans (hb3.mono (by simp))
   exact⟨by rw[HW.out],set5 hb5 (Nat.le_refl _) _ _ _ _ _⟩
 |true=>
  have HT:=Lib.hid ht
  clear ht
  go_enter Tryz.func92,Tryz.ntmps92
  go_wp2
  go_loopw [6] (fun i wr=>∃k: Nat,k≤ts.length∧ i= .int .i64 k∧(∀j (h:j< ts.length),j<k→ (ts[j].id==id)=false)∧
   Below (w.alloc (.cells #[.int .i64 0,.int .i64 0,.int .i64 0,.int .i64 0,.bool false] 75)).heap.size (w.alloc (.cells #[.int .i64 0,.int .i64 0,.int .i64 0,.int .i64 0,.bool false] 75)) wr) (fun i _=>ts.length- (intOf i).toNat)
  case atStart=>exact ⟨0,by omega,rfl,by omega,Below.refl _ _⟩
  case round=>
   obtain⟨k,hk,rfl,hno,hb⟩:=hrel
   have HNO:=Lib.hid hno
   clear hno
   by_cases hlt:k< ts.length
   ·obtain⟨b,o,rfl,hcs⟩:=hr1.at hlt
    have HCS:=Lib.hid hcs
    clear hcs
    cases hid:ts[k].id==id with
    |true=>
     have HID:=Lib.hid hid
     go_wp2_with(go_at_call 53;((with_reducible refine(refcheck_any ts _ _ _ _ rfl hl (hr1.below hb)).mono ?_);rw[HT.out];rintro e w3 ⟨rfl,hb3⟩;have hb4:=hb.trans (hb3.mono hb.size);have hcl:=own_cells hb4;have hfz:=own_frozen hb4;obtain⟨h0,h1,h2,h3,h4⟩:=HCS.out _ hb4))
     (try simp only[Exit.inBlock,Exit.then])
     refine bodyPost_ret (v:= .tuple #[ts[k].agg,.bool true]) (by simp[results,Tryz.results92,go_sem,hcl]) rfl ?_
     have hb5:=((Below.refl w.heap.size w).alloc (Nat.le_refl _) _).trans (hb4.mono (by simp))
     exact⟨by rw[findT_some hlt HT.out HNO.out HID.out],set5 hb5 (Nat.le_refl _) _ _ _ _ _⟩
    |false=>
     have HID:=Lib.hid hid
     go_wp2_with(go_at_call 53;((with_reducible refine(refcheck_any ts _ _ _ _ rfl hl (hr1.below hb)).mono ?_);rw[HT.out];rintro e w3 ⟨rfl,hb3⟩;have hb4:=hb.trans (hb3.mono hb.size);have hcl:=own_cells hb4;have hfz:=own_frozen hb4;obtain⟨h0,h1,h2,h3,h4⟩:=HCS.out _ hb4))
     go_roundw
     case rel=>exact ⟨k+1,by omega,by go_num,fun j h hj=>by rcases Nat.lt_succ_iff_lt_or_eq.1 hj with h1|rfl;exact HNO.out j h h1;exact HID.out,hb4⟩
     case measure=>simp [intOf];omega
   ·have hcl:=own_cells hb
    have hfz:=own_frozen hb
    have HW:Hid (findT ts id=(zeroT,false)):=findT_none (fun j hj=>HNO.out j hj (by omega))
    go_wp2
    (try simp only[Exit.inBlock,Exit.then])
    refine bodyPost_ret (v:= .tuple #[zeroT.agg,.bool false]) (by simp[results,Tryz.results92,go_sem,hcl,zeroT]) rfl ?_
    have hb5:=((Below.refl w.heap.size w).alloc (Nat.le_refl _) _).trans (hb.mono (by simp))
    exact⟨by rw[HW.out],set5 hb5 (Nat.le_refl _) _ _ _ _ _⟩
def filterL (id:Int) (ts:List Tenant):List Tenant:=ts.filter (fun x=>x.id !=id)
end Go.Proofs.YtfdmhpohfjbpfaaGreat
