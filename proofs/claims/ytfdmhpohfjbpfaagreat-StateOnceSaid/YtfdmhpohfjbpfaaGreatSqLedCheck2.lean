import Derived.Test.YtfdmhpohfjbpfaaGreatSq06
set_option linter.unusedVariables false
set_option linter.unusedSimpArgs false
namespace Go.Proofs.YtfdmhpohfjbpfaaGreat
open Go.ChangeShapes Go.WideShapes Go.ChangeAt Go.RowKit
set_option maxRecDepth 100000
theorem stOk_bad1 {s:St} (h:tensOk 0 s.tens=false):stOk s=false:= by unfold stOk;rw[h];rfl
theorem stOk_bad2 {s:St} (h:¬(s.leas.length≤64∧ 1≤s.next∧ s.next≤1099511627776)):stOk s=false:= by unfold stOk;rw[decide_eq_false h];simp
theorem stOk_bad3 {s:St} (h:leasOk s.tens s.next s.leas=false):stOk s=false:= by unfold stOk;rw[h];simp
theorem idx_all (p:Tenant→ Bool) (ts:List Tenant):(!decide (0≤idxL (fun t=> !p t) ts))=ts.all p:=by
 rcases idxL_ways (fun t=> !p t) ts with⟨h1,h2⟩|⟨k,hk,h1,h2,_⟩
 ·rw[h1]
  have:ts.all p=true:= List.all_eq_true.2 fun x hx=>by have:=h2 x hx;simpa using this
  rw[this];rfl
 ·rw[h1]
  have:ts.all p=false:= by
   rw[List.all_eq_false]
   exact⟨ts[k],List.getElem_mem hk,by simpa using h2⟩
  rw[this,decide_eq_true (by omega)];rfl
theorem stOk_fin {s:St} (h1:tensOk 0 s.tens=true) (h2:leasOk s.tens s.next s.leas=true) (h3:s.leas.length≤ 64∧1≤ s.next∧s.next≤ 1099511627776):(!decide (0≤idxL (fun t=> !tenRoom s.leas t) s.tens))=stOk s:=by
 unfold stOk;rw[h1,h2,decide_eq_true h3,idx_all];simp
def leaP (ok:Bool) (next last:Int) (x:Lease):Prop:= ok=true∧ last<x.id∧ x.id<next∧ 1≤x.shaper∧ x.shaper≤8∧ 1≤x.epoch∧ 1≤x.number∧ 1≤x.size∧ x.size≤1000000∧ 0≤x.spent∧ x.spent<x.size
theorem leaP_iff {ts:List Tenant} {next last:Int} {x:Lease}:(decide (last<x.id)&&leaGood ts next x)=true↔ leaP (findT ts x.tenant).2 next last x:=by
 unfold leaGood leaP
 simp only[Bool.and_eq_true,decide_eq_true_eq]
 constructor
 ·rintro⟨h1,h2,h3⟩;exact⟨h2,h1,h3⟩
 ·rintro⟨h1,h2,h3⟩;exact⟨h2,h1,h3⟩
theorem leasOk_next {ts:List Tenant} {next:Int} {ls:List Lease} {k:Nat} (h:k< ls.length) (hk:leasOk ts next (ls.take k)=true) (h1:leaP (findT ts ls[k].tenant).2 next (lastKey Lease.id 0 (ls.take k)) ls[k]):leasOk ts next (ls.take (k+1))=true:= by
 unfold leasOk at*
 rw[chainOk_take h,hk,leaP_iff.2 h1];rfl
theorem leasOk_bad {ts:List Tenant} {next:Int} {ls:List Lease} {k:Nat} (h:k< ls.length) (h1:¬leaP (findT ts ls[k].tenant).2 next (lastKey Lease.id 0 (ls.take k)) ls[k]):leasOk ts next ls=false:= by
 refine chainOk_bad h ?_
 cases hh:(decide (lastKey Lease.id 0 (ls.take k)<ls[k].id)&&leaGood ts next ls[k])with
 |false=> rfl
 |true=> exact absurd (leaP_iff.1 hh) h1
theorem ten_range {ts:List Tenant} {x:Tenant} (h:tensOk 0 ts=true) (hx:x∈ ts):(1≤x.id∧ x.id≤16)∧(0≤x.rate∧ x.rate≤1000000)∧(0≤x.burst∧ x.burst≤1000000)∧(0≤x.bucket∧ x.bucket≤1000000000):=by
 have h1:=(tensOk_iff.1 h).1 x hx
 have h2:=h1.2
 unfold okT ask2 ask3 mayB at h2
 simp only[Bool.and_eq_true,decide_eq_true_eq]at h2
 omega
set_option maxHeartbeats 8000000 in
theorem check_st (s:St) (r:Raw) (B:Nat) (w:World) (h:StAt w B r s) (hl:s.tens.length≤ 900) (hl2:s.leas.length≤ 900):
 Calls Tryz.prog 43 #[r.agg] w fun e w'=>e= .returned (.bool (stOk s))∧Below w.heap.size w w':=by
 obtain⟨term,stamp,next,⟨a1,n1,c1⟩,⟨a2,n2,c2⟩,⟨a3,n3,c3⟩,⟨a4,n4,c4⟩⟩:=r
 obtain⟨term',stamp',nx,ts,ls,ss,ds⟩:=s
 have hnx:=h.next
 have hn1:=h.ten.len
 have hn2:=h.lea.len
 have hr1:=h.trow
 have hr2:=h.lea.row
 simp only at hnx hn1 hn2 hr1 hr2 hl hl2
 subst hnx
 subst hn1
 subst hn2
 clear h
 have hmax:ts.length≤ maxLen:=le_maxLen (by omega)
 have HB1:Hid (tensOk 0 ts=false→ stOk ⟨term',stamp',next,ts,ls,ss,ds⟩=false):=fun h=>stOk_bad1 h
 have HB2:Hid (¬(ls.length≤64∧ 1≤next∧ next≤1099511627776)→stOk ⟨term',stamp',next,ts,ls,ss,ds⟩=false):=fun h=>stOk_bad2 h
 have HB3:Hid (leasOk ts next ls=false→ stOk ⟨term',stamp',next,ts,ls,ss,ds⟩=false):=fun h=>stOk_bad3 h
 have HFIN:Hid (tensOk 0 ts=true→ leasOk ts next ls=true→ (ls.length≤64∧ 1≤next∧ next≤1099511627776)→(!decide (0≤idxL (fun t=> !tenRoom ls t) ts))=stOk ⟨term',stamp',next,ts,ls,ss,ds⟩):=fun h1 h2 h3=>stOk_fin (s:=⟨term',stamp',next,ts,ls,ss,ds⟩) h1 h2 h3
 generalize stOk ⟨term',stamp',next,ts,ls,ss,ds⟩=res at HB1 HB2 HB3 HFIN ⊢
 have hcf:=enter_lcheck1
 have hmf:∀(fn:Fn) (first cap:Array Value) (w:World),(Instr.makeFunc fn first cap).run Tryz.prog w= .ok (.func fn first cap) w:=fun _ _ _ _=>rfl
 cases ht:tensOk 0 ts with
 |false=>
  have HT:=Lib.hid ht
  have HO:=Lib.hid (HB1.out ht)
  clear ht HB1 HB2 HB3 HFIN
  go_enter Tryz.func43,Tryz.ntmps43
  go_wp2_with(go_at_call 76;((with_reducible refine(check_any ts a1 _ _ _ rfl hmax (hr1.below belo)).mono ?_);rw[HT.out];rintro e w3 ⟨rfl,hb3⟩))
  go_returns
  exact⟨ret_bool HO.out.symm,belo⟩
 |true=>
  have HT:=Lib.hid ht
  clear ht
  by_cases hsz:ls.length≤ 64∧1≤ next∧next≤ 1099511627776
  ·obtain⟨g1,g2,g3⟩:=hsz
   have HSZ:=Lib.hid (And.intro g1 (And.intro g2 g3))
   have HTR:=Lib.hid (fun x hx=>ten_range (x:=x) HT.out hx)
   have HFT:Hid (leasOk ts next ls=true→ Fits ls):=fun h=>leasOk_fits HT.out h
   have HN:=Lib.hid (fun k (h:k< ls.length)=>leasOk_next (ts:=ts) (next:=next) h)
   have HX:=Lib.hid (fun k (h:k< ls.length)=>leasOk_bad (ts:=ts) (next:=next) h)
   have HL:=Lib.hid (fun k (h:k< ls.length)=>lastKey_take (key:=Lease.id) (a:=0) h)
   have H0:Hid (leasOk ts next (ls.take 0)=true):=rfl
   clear HB1 HB2
   go_enter Tryz.func43,Tryz.ntmps43
   go_wp2_with(go_at_call 76;((with_reducible refine(check_any ts a1 _ _ _ rfl hmax (hr1.below belo)).mono ?_);rw[HT.out];rintro e w3 ⟨rfl,hb3⟩;have qx3:Below (World.alloc w (.cells #[.int .i64 term,.int .i64 stamp,.int .i64 next,.slice a1 ts.length c1,.slice a2 ls.length c2,.slice a3 n3 c3,.slice a4 n4 c4] 27)).heap.size (World.alloc w (.cells #[.int .i64 term,.int .i64 stamp,.int .i64 next,.slice a1 ts.length c1,.slice a2 ls.length c2,.slice a3 n3 c3,.slice a4 n4 c4] 27)) w3:=belo;have hx3:=own_cells qx3;have zx3:=own_frozen qx3;have sx3:=Below.boxed qx3;clear qx3))
   go_loopw [3,32] (fun la i wr=>∃k: Nat,k≤ls.length∧ i= .int .i64 k∧la= .int .i64 (lastKey Lease.id 0 (ls.take k))∧Hid (leasOk ts next (ls.take k)=true)∧Below (World.alloc w (.cells #[.int .i64 term,.int .i64 stamp,.int .i64 next,.slice a1 ts.length c1,.slice a2 ls.length c2,.slice a3 n3 c3,.slice a4 n4 c4] 27)).heap.size (World.alloc w (.cells #[.int .i64 term,.int .i64 stamp,.int .i64 next,.slice a1 ts.length c1,.slice a2 ls.length c2,.slice a3 n3 c3,.slice a4 n4 c4] 27)) wr) (fun _ i _=>ls.length- (intOf i).toNat)
   case atStart=>exact ⟨0,by omega,rfl,rfl,H0.out,belo⟩
   case round=>
    obtain⟨k,hk,rfl,rfl,hok,hb0⟩:=hrel
    have hb:Below w.heap.size w wr:=mid_alloc' hb0
    have hx3:=own_cells hb0
    have sx3:=Below.boxed hb0
    by_cases hlt:k< ls.length
    ·obtain⟨b,o,rfl,hcs⟩:=atLea hr2 hlt
     have hx:=hcs _ hb
     have HN1:=Lib.hid (HN.out k hlt hok.out)
     have HX1:=Lib.hid (HX.out k hlt)
     have HL1:=Lib.hid (HL.out k hlt)
     generalize ls[k]=x at hx HN1 HX1 HL1
     generalize lastKey Lease.id 0 (ls.take k)=la at HN1 HX1 ⊢
     clear hcs
     obtain⟨xid,xten,xsh,xep,xnu,xsz,xsp⟩:=x
     rcases hfd:findT ts xten with⟨⟨fid,frate,fburst,fbucket,fgone⟩,ok⟩
     have HFD:=Lib.hid hfd
     simp only[hfd]at HN1 HX1
     by_cases hgo:leaP ok next la ⟨xid,xten,xsh,xep,xnu,xsz,xsp⟩
     ·have HN2:=Lib.hid (HN1.out hgo)
      obtain⟨rfl,p1,p2,p3,p4,p5,p6,p7,p8,p9,p10⟩:=hgo
      simp only at p1 p2 p3 p4 p5 p6 p7 p8 p9 p10
      clear hfd HN1 HX1
      go_wp2_with(go_at_call 77;((with_reducible refine(pfind_any ts a1 _ _ _ _ rfl hmax (hr1.below belo)).mono ?_);rw[HFD.out];rintro e w4 ⟨rfl,hb4⟩;have qx4:Below (World.alloc wr (.cells #[.int .i64 xid,.int .i64 xten,.int .i64 xsh,.int .i64 xep,.int .i64 xnu,.int .i64 xsz,.int .i64 xsp] 59)).heap.size (World.alloc wr (.cells #[.int .i64 xid,.int .i64 xten,.int .i64 xsh,.int .i64 xep,.int .i64 xnu,.int .i64 xsz,.int .i64 xsp] 59)) w4:=belo;have hx4:=own_cells qx4;have zx4:=own_frozen qx4;have sx4:=Below.boxed qx4;clear qx4;have hb5:Below (World.alloc w (.cells #[.int .i64 term,.int .i64 stamp,.int .i64 next,.slice a1 ts.length c1,.slice (some ⟨b,o,none⟩) ls.length c2,.slice a3 n3 c3,.slice a4 n4 c4] 27)).heap.size (World.alloc w (.cells #[.int .i64 term,.int .i64 stamp,.int .i64 next,.slice a1 ts.length c1,.slice (some ⟨b,o,none⟩) ls.length c2,.slice a3 n3 c3,.slice a4 n4 c4] 27)) w4:=belo;have hx5:=own_cells hb5;have sx5:=Below.boxed hb5))
      go_roundw
      case rel=>exact ⟨k+1,by omega,by go_num,by rw[HL1.out],HN2.out,belo⟩
      case measure=>simp [intOf];omega
     ·have HO:=Lib.hid (HB3.out (HX1.out hgo))
      have HG:=Lib.hid hgo
      clear hfd HN1 HX1 hgo
      cases ok with
      |false=>
       go_wp2_with(go_at_call 77;((with_reducible refine(pfind_any ts a1 _ _ _ _ rfl hmax (hr1.below belo)).mono ?_);rw[HFD.out];rintro e w4 ⟨rfl,hb4⟩;have qx4:Below (World.alloc wr (.cells #[.int .i64 xid,.int .i64 xten,.int .i64 xsh,.int .i64 xep,.int .i64 xnu,.int .i64 xsz,.int .i64 xsp] 59)).heap.size (World.alloc wr (.cells #[.int .i64 xid,.int .i64 xten,.int .i64 xsh,.int .i64 xep,.int .i64 xnu,.int .i64 xsz,.int .i64 xsp] 59)) w4:=belo;have hx4:=own_cells qx4;have zx4:=own_frozen qx4;have sx4:=Below.boxed qx4;clear qx4))
       go_returns
       exact⟨ret_bool HO.out.symm,belo⟩
      |true=>
       go_wp2_with(go_at_call 77;((with_reducible refine(pfind_any ts a1 _ _ _ _ rfl hmax (hr1.below belo)).mono ?_);rw[HFD.out];rintro e w4 ⟨rfl,hb4⟩;have qx4:Below (World.alloc wr (.cells #[.int .i64 xid,.int .i64 xten,.int .i64 xsh,.int .i64 xep,.int .i64 xnu,.int .i64 xsz,.int .i64 xsp] 59)).heap.size (World.alloc wr (.cells #[.int .i64 xid,.int .i64 xten,.int .i64 xsh,.int .i64 xep,.int .i64 xnu,.int .i64 xsz,.int .i64 xsp] 59)) w4:=belo;have hx4:=own_cells qx4;have zx4:=own_frozen qx4;have sx4:=Below.boxed qx4;clear qx4;have hb5:Below (World.alloc w (.cells #[.int .i64 term,.int .i64 stamp,.int .i64 next,.slice a1 ts.length c1,.slice (some ⟨b,o,none⟩) ls.length c2,.slice a3 n3 c3,.slice a4 n4 c4] 27)).heap.size (World.alloc w (.cells #[.int .i64 term,.int .i64 stamp,.int .i64 next,.slice a1 ts.length c1,.slice (some ⟨b,o,none⟩) ls.length c2,.slice a3 n3 c3,.slice a4 n4 c4] 27)) w4:=belo;have hx5:=own_cells hb5;have sx5:=Below.boxed hb5))
       all_goals first
        |(go_returns;exact⟨ret_bool HO.out.symm,belo⟩)
        |(exfalso;refine HG.out ⟨rfl,?_⟩;simp only;omega)
    ·obtain rfl:k= ls.length:=by omega
     have hlk:leasOk ts next ls=true:= by have:=hok.out;rw[List.take_length]at this;exact this
     have hfit:=HFT.out hlk
     have HO:=Lib.hid (HFIN.out HT.out hlk HSZ.out)
     have HRG:=Lib.hid (fun id=>outL_range id hfit)
     have HFITS:=Lib.hid hfit
     clear hlk hfit
     go_wp2_with(first|(refine wpList_load_as laySt rfl (.tmp 1) rfl w.heap.size 0 rfl ⟨term,stamp,next,⟨a1,ts.length,c1⟩,⟨a2,ls.length,c2⟩,⟨a3,n3,c3⟩,⟨a4,n4,c4⟩⟩ (.agg #[.int .i64 term,.int .i64 stamp,.int .i64 next,.slice a1 ts.length c1,.slice a2 ls.length c2,.slice a3 n3 c3,.slice a4 n4 c4]) rfl (box_range hb0) ?_)|(go_at_call 58;((with_reducible refine(outs_any ls ⟨term,stamp,next,⟨a1,ts.length,c1⟩,⟨a2,ls.length,c2⟩,⟨a3,n3,c3⟩,⟨a4,n4,c4⟩⟩ _ rfl (by omega) HFITS.out (hr2.below hb)).mono ?_);rintro e w5 ⟨mb,mn,mf,rfl,hmap,hb5⟩;have HMAP:=Lib.hid hmap;clear hmap;have hb6:Below (World.alloc w (.cells #[.int .i64 term,.int .i64 stamp,.int .i64 next,.slice a1 ts.length c1,.slice a2 ls.length c2,.slice a3 n3 c3,.slice a4 n4 c4] 27)).heap.size (World.alloc w (.cells #[.int .i64 term,.int .i64 stamp,.int .i64 next,.slice a1 ts.length c1,.slice a2 ls.length c2,.slice a3 n3 c3,.slice a4 n4 c4] 27)) w5:=belo;have hx6:=own_cells hb6;have sx6:=Below.boxed hb6))|(go_at_call 78;((with_reducible refine(containsFuncTen ts a1 _ _ _ _ (fun t=> !tenRoom ls t) _ rfl hmax (LRow.below (L:=layTen) hr1 belo) hcf (fun x hx w' hb'=>check1_any x ls w5.heap.size wr.heap.size mb mn mf w' (HTR.out x hx).1 (HTR.out x hx).2.2.2.2 (HTR.out x hx).2.2.1 (by have:=HRG.out x.id;omega) ((hb'.cell (p:=⟨w5.heap.size,0,none⟩) (by simp)).trans (World.cell?_alloc_at _ _ _ 0 rfl)) (HMAP.out.below (mid_alloc' hb')))).mono ?_);rintro e w7 ⟨rfl,hb7⟩)))
     go_returns
     exact⟨ret_bool HO.out,belo⟩
  ·have HO:=Lib.hid (HB2.out hsz)
   have HSZ:=Lib.hid hsz
   clear hsz HB1 HB2 HB3 HFIN
   go_enter Tryz.func43,Tryz.ntmps43
   by_cases g1:64< ls.length
   ·have g1':decide ((64:Int)<(ls.length:Int))=true:= decide_eq_true (by omega)
    go_wp2_with(go_at_call 76;((with_reducible refine(check_any ts a1 _ _ _ rfl hmax (hr1.below belo)).mono ?_);rw[HT.out];rintro e w3 ⟨rfl,hb3⟩;have qx3:Below (World.alloc w (.cells #[.int .i64 term,.int .i64 stamp,.int .i64 next,.slice a1 ts.length c1,.slice a2 ls.length c2,.slice a3 n3 c3,.slice a4 n4 c4] 27)).heap.size (World.alloc w (.cells #[.int .i64 term,.int .i64 stamp,.int .i64 next,.slice a1 ts.length c1,.slice a2 ls.length c2,.slice a3 n3 c3,.slice a4 n4 c4] 27)) w3:=belo;have hx3:=own_cells qx3;have zx3:=own_frozen qx3;have sx3:=Below.boxed qx3;clear qx3))
    go_returns
    exact⟨ret_bool HO.out.symm,belo⟩
   ·by_cases g2:next< 1
    ·go_wp2_with(go_at_call 76;((with_reducible refine(check_any ts a1 _ _ _ rfl hmax (hr1.below belo)).mono ?_);rw[HT.out];rintro e w3 ⟨rfl,hb3⟩;have qx3:Below (World.alloc w (.cells #[.int .i64 term,.int .i64 stamp,.int .i64 next,.slice a1 ts.length c1,.slice a2 ls.length c2,.slice a3 n3 c3,.slice a4 n4 c4] 27)).heap.size (World.alloc w (.cells #[.int .i64 term,.int .i64 stamp,.int .i64 next,.slice a1 ts.length c1,.slice a2 ls.length c2,.slice a3 n3 c3,.slice a4 n4 c4] 27)) w3:=belo;have hx3:=own_cells qx3;have zx3:=own_frozen qx3;have sx3:=Below.boxed qx3;clear qx3))
     go_returns
     exact⟨ret_bool HO.out.symm,belo⟩
    ·have g3:1099511627776< next:=by have:=HSZ.out;omega
     go_wp2_with(go_at_call 76;((with_reducible refine(check_any ts a1 _ _ _ rfl hmax (hr1.below belo)).mono ?_);rw[HT.out];rintro e w3 ⟨rfl,hb3⟩;have qx3:Below (World.alloc w (.cells #[.int .i64 term,.int .i64 stamp,.int .i64 next,.slice a1 ts.length c1,.slice a2 ls.length c2,.slice a3 n3 c3,.slice a4 n4 c4] 27)).heap.size (World.alloc w (.cells #[.int .i64 term,.int .i64 stamp,.int .i64 next,.slice a1 ts.length c1,.slice a2 ls.length c2,.slice a3 n3 c3,.slice a4 n4 c4] 27)) w3:=belo;have hx3:=own_cells qx3;have zx3:=own_frozen qx3;have sx3:=Below.boxed qx3;clear qx3))
     go_returns
     exact⟨ret_bool HO.out.symm,belo⟩
end Go.Proofs.YtfdmhpohfjbpfaaGreat
