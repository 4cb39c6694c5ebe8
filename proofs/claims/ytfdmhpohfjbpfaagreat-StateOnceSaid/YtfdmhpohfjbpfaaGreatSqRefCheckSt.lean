import Derived.Test.YtfdmhpohfjbpfaaGreatSqRefLeas
set_option linter.unusedVariables false
set_option linter.unusedSimpArgs false
namespace Go.Proofs.YtfdmhpohfjbpfaaGreat
open Go.ChangeShapes Go.WideShapes Go.ChangeAt Go.RowKit
set_option maxRecDepth 100000
theorem ten0 {w:World} {b:Nat} {t:Tenant} (h:w.rangeAt b 0 t.cells):w.cell? ⟨b,0,none⟩=some (.int .i64 t.id)∧w.cell? ⟨b,1,none⟩=some (.int .i64 t.rate)∧w.cell? ⟨b,2,none⟩=some (.int .i64 t.burst)∧w.cell? ⟨b,3,none⟩=some (.int .i64 t.bucket)∧w.cell? ⟨b,4,none⟩=some (.bool t.gone):=by
 have h0:=h 0 _ rfl
 have h1:=h 1 _ rfl
 have h2:=h 2 _ rfl
 have h3:=h 3 _ rfl
 have h4:=h 4 _ rfl
 simp only[Nat.zero_add]at h0 h1 h2 h3 h4
 exact⟨h0,h1,h2,h3,h4⟩
theorem stOk_bad4 {s:St} {x:Tenant} (hx:x∈ s.tens) (h:tenRoom s.leas x=false):stOk s=false:= by
 unfold stOk
 have:s.tens.all (tenRoom s.leas)=false:= List.all_eq_false.2 ⟨x,hx,by rw[h];simp⟩
 rw[this,Bool.and_false]
theorem stOk_all {s:St} (h1:tensOk 0 s.tens=true) (h2:leasesB s=true) (h3:∀x∈ s.tens,tenRoom s.leas x=true):stOk s=true:= by
 unfold stOk
 unfold leasesB at h2
 rw[h1,h2,List.all_eq_true.2 h3];rfl
set_option maxHeartbeats 8000000 in
theorem refcheck_st (s:St) (r:Raw) (B:Nat) (w:World) (h:StAt w B r s) (hl:s.tens.length≤ 900) (hl2:s.leas.length≤ 900):
 Calls Tryz.prog 26 #[r.agg] w fun e w'=>e= .returned (.bool (stOk s))∧Below w.heap.size w w':=by
 have hmax:s.tens.length≤ maxLen:=le_maxLen (by omega)
 have HCK:=Lib.hid (fun w' (hb:Below w.heap.size w w')=>refcheck_any s.tens r.ten.a r.ten.n r.ten.c w' h.ten.len hmax (Row.below h.trow hb))
 have HLE:=Lib.hid (fun(ht:tensOk 0 s.tens=true) w' (hb:Below w.heap.size w w')=>refleases_st s r B w' (h.below hb) ht hl hl2)
 have HOU:=Lib.hid (fun(hf:Fits s.leas) id w' (hb:Below w.heap.size w w')=>refout_any s.leas r id w' h.lea.len (by omega) hf (h.lea.row.below hb))
 have HR:=Lib.hid h.trow
 have HB1:Hid (tensOk 0 s.tens=false→ stOk s=false):=fun h=>stOk_bad1 h
 have HB2:Hid (leasesB s=false→ stOk s=false):=fun h=>by unfold stOk;unfold leasesB at h;rw[h];simp
 have HB3:Hid (∀x∈ s.tens,tenRoom s.leas x=false→ stOk s=false):=fun x hx h=>stOk_bad4 hx h
 have HOKK:=Lib.hid (fun h1 h2 h3=>stOk_all (s:=s) h1 h2 h3)
 generalize stOk s=res at HB1 HB2 HB3 HOKK ⊢
 have hn:s.tens.length= r.ten.n:=h.ten.len
 obtain⟨term,stamp,next,⟨a1,n1,c1⟩,⟨a2,n2,c2⟩,⟨a3,n3,c3⟩,⟨a4,n4,c4⟩⟩:=r
 simp only at hn
 subst hn
 clear h
 have HBX:Hid (∀w',Below (w.alloc (.cells #[.int .i64 term,.int .i64 stamp,.int .i64 next,.slice a1 s.tens.length c1,.slice a2 n2 c2,.slice a3 n3 c3,.slice a4 n4 c4] 27)).heap.size (w.alloc (.cells #[.int .i64 term,.int .i64 stamp,.int .i64 next,.slice a1 s.tens.length c1,.slice a2 n2 c2,.slice a3 n3 c3,.slice a4 n4 c4] 27)) w'→Box w' w.heap.size (Raw.cells ⟨term,stamp,next,⟨a1,s.tens.length,c1⟩,⟨a2,n2,c2⟩,⟨a3,n3,c3⟩,⟨a4,n4,c4⟩⟩)):=fun w' hb=>Box.of_alloc hb
 cases ht:tensOk 0 s.tens with
 |false=>
  have HT:=Lib.hid ht
  have HO:=Lib.hid (HB1.out ht)
  clear ht
  go_enter Tryz.func26,Tryz.ntmps26
  go_wp2_with(go_at_call 53;((with_reducible refine(HCK.out _ belo).mono ?_);rw[HT.out];rintro e w3 ⟨rfl,hb3⟩))
  go_returns
  exact⟨ret_bool HO.out.symm,belo⟩
 |true=>
  have HT:=Lib.hid ht
  clear ht
  cases hle:leasesB s with
  |false=>
   have HLB:=Lib.hid hle
   have HO:=Lib.hid (HB2.out hle)
   clear hle
   go_enter Tryz.func26,Tryz.ntmps26
   go_wp2_with(first|(go_at_call 53;((with_reducible refine(HCK.out _ belo).mono ?_);rw[HT.out];rintro e w3 ⟨rfl,hb3⟩;have hq3:Below w.heap.size w w3:=belo;obtain⟨⟨k0,k1,k2,k3,k4,k5,k6⟩,_,_⟩:=(HBX.out w3 belo).st;simp only at k0 k1 k2 k3 k4 k5 k6))|(go_at_call 54;((with_reducible refine(HLE.out HT.out _ hq3).mono ?_);rw[HLB.out];rintro e w4 ⟨rfl,hb4⟩)))
   go_returns
   exact⟨ret_bool HO.out.symm,belo⟩
  |true=>
   have HLB:=Lib.hid hle
   have hfit:Fits s.leas:=by
    have h:=hle
    unfold leasesB at h
    simp only[Bool.and_eq_true]at h
    exact leasOk_fits HT.out h.1
   have HFIT:=Lib.hid hfit
   have HRG:=Lib.hid (fun id=>outL_range id hfit)
   have HTR:=Lib.hid (fun x hx=>ten_range (x:=x) HT.out hx)
   have hl9:=hl
   have hl8:=hl2
   clear hle hfit
   go_enter Tryz.func26,Tryz.ntmps26
   go_wp2_with(first|(go_at_call 53;((with_reducible refine(HCK.out _ belo).mono ?_);rw[HT.out];rintro e w3 ⟨rfl,hb3⟩;have hq3:Below w.heap.size w w3:=belo;obtain⟨⟨k0,k1,k2,k3,k4,k5,k6⟩,_,_⟩:=(HBX.out w3 belo).st;simp only at k0 k1 k2 k3 k4 k5 k6))|(go_at_call 54;((with_reducible refine(HLE.out HT.out _ hq3).mono ?_);rw[HLB.out];rintro e w4 ⟨rfl,hb4⟩;clear k0 k1 k2 k3 k4 k5 k6)))
   go_loopw [3] (fun i wr=>∃k: Nat,k≤s.tens.length∧ i= .int .i64 k∧Hid (∀j (h:j< s.tens.length),j<k→ tenRoom s.leas s.tens[j]=true)∧Below (w.alloc (.cells #[.int .i64 term,.int .i64 stamp,.int .i64 next,.slice a1 s.tens.length c1,.slice a2 n2 c2,.slice a3 n3 c3,.slice a4 n4 c4] 27)).heap.size (w.alloc (.cells #[.int .i64 term,.int .i64 stamp,.int .i64 next,.slice a1 s.tens.length c1,.slice a2 n2 c2,.slice a3 n3 c3,.slice a4 n4 c4] 27)) wr) (fun i _=>s.tens.length- (intOf i).toNat)
   case atStart=>exact ⟨0,by omega,rfl,(fun j _ hj=>by omega),belo⟩
   case round=>
    obtain⟨k,hk,rfl,hall,hb0⟩:=hrel
    have hb:Below w.heap.size w wr:=mid_alloc' hb0
    have HXR:=Lib.hid (HBX.out wr hb0)
    have k3:=HXR.out.cell (j:=3) rfl
    by_cases hlt:k< s.tens.length
    ·obtain⟨b,o,ha,hcs⟩:=HR.out.at hlt
     subst ha
     have hx:=hcs _ hb
     have HX:=Lib.hid (HTR.out s.tens[k] (List.getElem_mem hlt))
     have HBD:=Lib.hid (HB3.out s.tens[k] (List.getElem_mem hlt))
     have HNX:Hid (tenRoom s.leas s.tens[k]=true→ ∀j (h:j< s.tens.length),j<k+ 1→tenRoom s.leas s.tens[j]=true):=fun h1 j h hj=>by
      rcases Nat.lt_succ_iff_lt_or_eq.1 hj with h2|rfl
      ·exact hall.out j h h2
      ·exact h1
     generalize s.tens[k]=x at hx HX HBD HNX
     clear hcs
     have HRO:Hid (tenRoom s.leas x=decide (0<x.bucket→ x.bucket+1000* outL s.leas x.id≤1000* x.burst)):=rfl
     generalize tenRoom s.leas x=room at HBD HNX HRO
     obtain⟨id,rate,burst,bucket,gone⟩:=x
     have hsz:=hb0.size
     simp only[World.size_alloc]at hsz
     by_cases hb1:0< bucket
     ·have hg:decide (0<bucket)=true:= decide_eq_true hb1
      obtain⟨⟨v1,v2⟩,_,⟨v3,v4⟩,v5,v6⟩:=HX.out
      simp only at v1 v2 v3 v4 v5 v6
      obtain⟨z1,z2⟩:=HRG.out id
      have HOI:=Lib.hid (HOU.out HFIT.out id)
      have HRO2:Hid (room=decide (0<bucket→ bucket+1000* outL s.leas id≤1000* burst)):=HRO.out
      generalize outL s.leas id=z at z1 z2 HOI HRO2
      have hw1:IntKind.i64.wrap (1000*z)=1000* z:=IntWalk.i64_in _ ⟨by omega,by omega⟩
      have hw2:IntKind.i64.wrap (bucket+1000* z)=bucket+ 1000*z:= IntWalk.i64_in _ ⟨by omega,by omega⟩
      have hw3:IntKind.i64.wrap (1000*burst)=1000* burst:=IntWalk.i64_in _ ⟨by omega,by omega⟩
      by_cases hcq:1000* burst<bucket+ 1000*z
      ·skip
       have hqq:decide (1000*burst< bucket+1000* z)=true:= decide_eq_true hcq
       have HOB:=Lib.hid (HBD.out (by rw[HRO2.out];exact decide_eq_false (by omega)))
       go_wp2_with(refine wpList_store_box layTen rfl (.tmp 4) (.tmp 25) rfl ⟨id,rate,burst,bucket,gone⟩ rfl rfl rfl ?_;intro w7 hw7 ht7 hb7 hs7;obtain⟨p0,p1,p2,p3,p4⟩:=ten0 hw7;have HB7:Hid (Box w7 wr.heap.size (Tenant.cells ⟨id,rate,burst,bucket,gone⟩)):=⟨hw7,ht7⟩;have HX7:=Lib.hid (HXR.out.below hb7 (by omega));obtain⟨⟨k0,k1,k2,k3',k4,k5,k6⟩,_,_⟩:=HX7.out.st;simp only at k0 k1 k2 k3' k4 k5 k6;clear hw7 ht7)
       have HKP:Hid (∀w',Below w7.heap.size w7 w'→((w'.cell? ⟨w.heap.size,0,none⟩=some (.int .i64 term)∧w'.cell? ⟨w.heap.size,1,none⟩=some (.int .i64 stamp)∧w'.cell? ⟨w.heap.size,2,none⟩=some (.int .i64 next)∧w'.cell? ⟨w.heap.size,3,none⟩=some (.slice (some ⟨b,o,none⟩) s.tens.length c1)∧w'.cell? ⟨w.heap.size,4,none⟩=some (.slice a2 n2 c2)∧w'.cell? ⟨w.heap.size,5,none⟩=some (.slice a3 n3 c3)∧w'.cell? ⟨w.heap.size,6,none⟩=some (.slice a4 n4 c4))∧w'.cell? ⟨wr.heap.size,0,none⟩=some (.int .i64 id)∧w'.cell? ⟨wr.heap.size,2,none⟩=some (.int .i64 burst)∧w'.cell? ⟨wr.heap.size,3,none⟩=some (.int .i64 bucket))):=fun w' hb'=>⟨cellsSt0 (HX7.out.next (by simp) hb').range,(HB7.out.next (by simp) hb').cell (j:=0) rfl,(HB7.out.next (by simp) hb').cell (j:=2) rfl,(HB7.out.next (by simp) hb').cell (j:=3) rfl⟩
       have hq7:Below w.heap.size w w7:=hb.trans (hb7.mono (by omega))
       have HB70:=Lib.hid (hb0.trans (hb7.mono (by simp only[World.size_alloc];omega)))
       clear p0 p1 p2 p3 p4 k0 k1 k2 k3 k3' k4 k5 k6
       go_region_held3 (fun w'=>((w'.cell? ⟨w.heap.size,0,none⟩=some (.int .i64 term)∧w'.cell? ⟨w.heap.size,1,none⟩=some (.int .i64 stamp)∧w'.cell? ⟨w.heap.size,2,none⟩=some (.int .i64 next)∧w'.cell? ⟨w.heap.size,3,none⟩=some (.slice (some ⟨b,o,none⟩) s.tens.length c1)∧w'.cell? ⟨w.heap.size,4,none⟩=some (.slice a2 n2 c2)∧w'.cell? ⟨w.heap.size,5,none⟩=some (.slice a3 n3 c3)∧w'.cell? ⟨w.heap.size,6,none⟩=some (.slice a4 n4 c4))∧w'.cell? ⟨wr.heap.size,0,none⟩=some (.int .i64 id)∧w'.cell? ⟨wr.heap.size,2,none⟩=some (.int .i64 burst)∧w'.cell? ⟨wr.heap.size,3,none⟩=some (.int .i64 bucket))) ((refine HKP.out _ ?_;first|exact (Below.refl _ _).drew|exact HB78.out|exact HB78.out.drew)) (first|(go_at_call 31;((with_reducible refine(HOI.out _ hq7.drew).mono ?_);rintro e w8 ⟨rfl,hb8⟩;have hb78:Below w7.heap.size w7 w8:=⟨hb8.os,hb8.tape,hb8.output,hb8.size,hb8.block⟩;have HB78:=Lib.hid hb78;have HB8:=Lib.hid (hq7.trans (hb78.mono hq7.size));have HB9:=Lib.hid (HB70.out.trans (hb78.mono HB70.out.size)))))
       go_wp2
       go_returns
       exact⟨ret_bool HOB.out.symm,HB8.out⟩
      ·skip
       have hqq:decide (1000*burst< bucket+1000* z)=false:= decide_eq_false hcq
       have HNX2:=Lib.hid (HNX.out (by rw[HRO2.out];exact decide_eq_true (by omega)))
       go_wp2_with(refine wpList_store_box layTen rfl (.tmp 4) (.tmp 25) rfl ⟨id,rate,burst,bucket,gone⟩ rfl rfl rfl ?_;intro w7 hw7 ht7 hb7 hs7;obtain⟨p0,p1,p2,p3,p4⟩:=ten0 hw7;have HB7:Hid (Box w7 wr.heap.size (Tenant.cells ⟨id,rate,burst,bucket,gone⟩)):=⟨hw7,ht7⟩;have HX7:=Lib.hid (HXR.out.below hb7 (by omega));obtain⟨⟨k0,k1,k2,k3',k4,k5,k6⟩,_,_⟩:=HX7.out.st;simp only at k0 k1 k2 k3' k4 k5 k6;clear hw7 ht7)
       have HKP:Hid (∀w',Below w7.heap.size w7 w'→((w'.cell? ⟨w.heap.size,0,none⟩=some (.int .i64 term)∧w'.cell? ⟨w.heap.size,1,none⟩=some (.int .i64 stamp)∧w'.cell? ⟨w.heap.size,2,none⟩=some (.int .i64 next)∧w'.cell? ⟨w.heap.size,3,none⟩=some (.slice (some ⟨b,o,none⟩) s.tens.length c1)∧w'.cell? ⟨w.heap.size,4,none⟩=some (.slice a2 n2 c2)∧w'.cell? ⟨w.heap.size,5,none⟩=some (.slice a3 n3 c3)∧w'.cell? ⟨w.heap.size,6,none⟩=some (.slice a4 n4 c4))∧w'.cell? ⟨wr.heap.size,0,none⟩=some (.int .i64 id)∧w'.cell? ⟨wr.heap.size,2,none⟩=some (.int .i64 burst)∧w'.cell? ⟨wr.heap.size,3,none⟩=some (.int .i64 bucket))):=fun w' hb'=>⟨cellsSt0 (HX7.out.next (by simp) hb').range,(HB7.out.next (by simp) hb').cell (j:=0) rfl,(HB7.out.next (by simp) hb').cell (j:=2) rfl,(HB7.out.next (by simp) hb').cell (j:=3) rfl⟩
       have hq7:Below w.heap.size w w7:=hb.trans (hb7.mono (by omega))
       have HB70:=Lib.hid (hb0.trans (hb7.mono (by simp only[World.size_alloc];omega)))
       clear p0 p1 p2 p3 p4 k0 k1 k2 k3 k3' k4 k5 k6
       go_region_held3 (fun w'=>((w'.cell? ⟨w.heap.size,0,none⟩=some (.int .i64 term)∧w'.cell? ⟨w.heap.size,1,none⟩=some (.int .i64 stamp)∧w'.cell? ⟨w.heap.size,2,none⟩=some (.int .i64 next)∧w'.cell? ⟨w.heap.size,3,none⟩=some (.slice (some ⟨b,o,none⟩) s.tens.length c1)∧w'.cell? ⟨w.heap.size,4,none⟩=some (.slice a2 n2 c2)∧w'.cell? ⟨w.heap.size,5,none⟩=some (.slice a3 n3 c3)∧w'.cell? ⟨w.heap.size,6,none⟩=some (.slice a4 n4 c4))∧w'.cell? ⟨wr.heap.size,0,none⟩=some (.int .i64 id)∧w'.cell? ⟨wr.heap.size,2,none⟩=some (.int .i64 burst)∧w'.cell? ⟨wr.heap.size,3,none⟩=some (.int .i64 bucket))) ((refine HKP.out _ ?_;first|exact (Below.refl _ _).drew|exact HB78.out|exact HB78.out.drew)) (first|(go_at_call 31;((with_reducible refine(HOI.out _ hq7.drew).mono ?_);rintro e w8 ⟨rfl,hb8⟩;have hb78:Below w7.heap.size w7 w8:=⟨hb8.os,hb8.tape,hb8.output,hb8.size,hb8.block⟩;have HB78:=Lib.hid hb78;have HB8:=Lib.hid (hq7.trans (hb78.mono hq7.size));have HB9:=Lib.hid (HB70.out.trans (hb78.mono HB70.out.size)))))
       go_wp2
       go_roundw
       case rel=>exact ⟨k+1,by omega,by go_num,HNX2.out,HB9.out⟩
       case measure=>simp [intOf];omega
     ·have hg:decide (0<bucket)=false:= decide_eq_false hb1
      have HNX2:=Lib.hid (HNX.out (by rw[HRO.out];exact decide_eq_true (fun h=>absurd h hb1)))
      go_wp2_with(refine wpList_store_box layTen rfl (.tmp 4) (.tmp 25) rfl ⟨id,rate,burst,bucket,gone⟩ rfl rfl rfl ?_;intro w7 hw7 ht7 hb7 hs7;obtain⟨p0,p1,p2,p3,p4⟩:=ten0 hw7;have HB7:Hid (Box w7 wr.heap.size (Tenant.cells ⟨id,rate,burst,bucket,gone⟩)):=⟨hw7,ht7⟩;have HX7:=Lib.hid (HXR.out.below hb7 (by omega));obtain⟨⟨k0,k1,k2,k3',k4,k5,k6⟩,_,_⟩:=HX7.out.st;simp only at k0 k1 k2 k3' k4 k5 k6;clear hw7 ht7)
      have HB70:=Lib.hid (hb0.trans (hb7.mono (by simp only[World.size_alloc];omega)))
      go_quiet (fail)
      go_wp2
      go_roundw
      case rel=>exact ⟨k+1,by omega,by go_num,HNX2.out,below_drewN HB70.out _⟩
      case measure=>simp [intOf];omega
    ·obtain rfl:k= s.tens.length:=by omega
     have HO:=Lib.hid (HOKK.out HT.out HLB.out (fun x hx=>by
      obtain⟨j,hj,rfl⟩:=List.mem_iff_getElem.1 hx
      exact hall.out j hj hj))
     go_wp2
     go_returns
     exact⟨ret_bool HO.out.symm,hb⟩
end Go.Proofs.YtfdmhpohfjbpfaaGreat
