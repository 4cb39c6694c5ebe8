import Derived.Test.YtfdmhpohfjbpfaaGreatSqLedGrant
import Derived.Test.YtfdmhpohfjbpfaaGreatSqLedGrantOk
set_option linter.unusedVariables false
set_option linter.unusedSimpArgs false
namespace Go.Proofs.YtfdmhpohfjbpfaaGreat
open Go.ChangeShapes Go.WideShapes Go.ChangeAt Go.RowKit
set_option maxRecDepth 100000
theorem grant_new (s:St) (r:Raw) (B:Nat) (sh ep nu te sz:Int) (w:World) (h:StAt w B r s) (hl1':s.tens.length≤ 800) (hl2:s.leas.length≤ 900) (hl3:s.sess.length≤ 900) (hl4:s.dsks.length≤ 900):
 Calls Tryz.prog 118 #[r.agg,.int .i64 sh,.int .i64 ep,.int .i64 nu,.int .i64 te,.int .i64 sz] w (RetSAN w (grantS s sh ep nu te sz)):=by
 by_cases hng:stOk s=true→ (1≤sh∧ sh≤8∧ 1≤ep∧ 1≤nu∧ 1≤sz∧ sz≤1000000)→(findT s.tens te).2=true→ (findT s.tens te).1.gone=false→ s.leas.length<64→ s.next<1099511627776→ (takeI (findT s.tens te).1.bucket sz).2≠0
 ·exact grant_not s r B sh ep nu te sz w h hl1' hl2 hl3 hl4 hng
 ·simp only[Classical.not_imp,Decidable.not_not]at hng
  obtain⟨hok,⟨g1,g2,g3,g4,g5,g6⟩,hf,hgo,g7,g8,htk⟩:=hng
  obtain⟨h1,h2,h3,h4⟩:=stOk_parts hok
  obtain⟨t1,t2⟩:=findT_range h1 hf
  have hfit:Fits (s.leas++[⟨s.next,te,sh,ep,nu,sz,0⟩]):=by
   intro x hx
   rcases List.mem_append.1 hx with hx|hx
   ·exact leasOk_fits h1 h2 x hx
   ·rw[List.mem_singleton.1 hx];simp only;omega
  have hres:grantS s sh ep nu te sz=(sweptS (grownS s {(findT s.tens te).1 with bucket:=(takeI (findT s.tens te).1.bucket sz).1} ⟨s.next,te,sh,ep,nu,sz,0⟩),⟨0,(findT s.tens te).1.rate,(findT s.tens te).1.burst,s.next,sz⟩):=by
   unfold grantS
   rw[if_neg (by rw[hok];simp),if_neg (by unfold argsBad;omega),if_neg (by rw[hf,hgo];simp),if_neg (by omega),if_neg (by rw[htk];simp)]
   rfl
  rw[hres]
  have hfd:findT s.tens te=((findT s.tens te).1,true):=by rw[←hf]
  generalize(findT s.tens te).1=x at*
  obtain⟨fid,frate,fburst,fbucket,fgone⟩:=x
  simp only at hgo htk
  subst hgo
  rcases takeI_ways fbucket sz with ht|ht
  ·rw[ht]at htk;simp at htk
  ·rw[ht]
   exact grant_good s r B sh ep nu te sz fid frate fburst fbucket w h hl1' hl2 hl3 hl4 hok hfd g1 g2 g3 g4 g5 g6 g7 g8 ht h3.2.1 hfit
def RetKeepN (w:World) (r:List Session×Int) (e:Ending) (w':World):Prop:=
 ∃a c,e= .returned (.tuple #[.slice a r.1.length c,.int .i64 r.2])∧r.1.length≤ c∧c≤ maxLen∧(a=none→ c=0)∧LRow laySes w' a r.1∧Near w.heap.size none a∧Below w.heap.size w w'
theorem RetKeepN.keep {w:World} {r:List Session×Int} {e:Ending} {w':World} (h:RetKeepN w r e w'):RetKeep w r e w':=let ⟨a,c,h1,h2,h3,h4,h5,_,h6⟩:=h;⟨a,c,h1,h2,h3,h4,h5,h6⟩
theorem own_fullL {P:Program} {e:TypeId} {α:Type} {L:Lay P e α} {w:World} {B:Nat} {a:Option Addr} {n c:Nat} {xs:List α} (h:w.ownsRow B e L.size (.slice a n c) n (xs.flatMap L.cells)):n≤ c∧c≤ maxLen∧(a=none→ c=0)∧LRow L w a xs:=by
 obtain⟨a',c',hv,h1,h2,h3⟩:=own_slice h
 simp only[Value.slice.injEq]at hv
 obtain⟨rfl,_,rfl⟩:=hv
 exact⟨h1,h2,h3,own_row h⟩
def zDsk:Desk:= ⟨0,0,0,⟨0,0,0,0,0⟩⟩
theorem overlapsDsk_no (w:World) (vb g o m vc lb cb:Nat) (tA tB:TypeId) (cA cB:Array Value) (hne:vb≠ g) (hA:w.heap[vb]? =some (.cells cA tA (0,0))) (hB:w.heap[g]? =some (.cells cB tB (0,0))) (hk:cB.size≠ 0):
 (callFunc 166 #[.slice (some ⟨vb,0,none⟩) m vc,.slice (some ⟨g,o,none⟩) lb cb]).run Tryz.prog w= .ok (.value (.bool false)) w:=by
 obtain⟨i,z,h2,_,h3,_⟩:=(layDsk).parts
 have hsz:∀w,(sizeOf 66).run Tryz.prog w= .ok (layDsk).size w:=fun w=>by simp[sizeOf,typeInfo,h2,h3]
 rw[run_callFunc_extern Tryz.func166 (by kernel_rfl) (by kernel_rfl) (by kernel_rfl) (e:=Extern.SlicesOverlaps.overlaps #[25,25] #[4]) (by kernel_rfl),
  Lib.run_overlaps_apart w 25 4 66 Tryz.underlying25 (layDsk).size hsz ⟨vb,0,none⟩ ⟨g,o,none⟩ m vc lb cb hne tA tB cA.size cB.size
   (by simp[World.shape?,hA]) (by simp[World.shape?,hB]) hk (by simp[World.frozen?,hA]) (by simp[World.frozen?,hA])]
 rfl
theorem midDsk_cells (xs:List Desk) (x:Desk) (i:Nat):(xs.take i++x:: xs.drop i).flatMap (layDsk).cells=(xs.take i).flatMap (layDsk).cells++((layDsk).cells x++(xs.drop i).flatMap (layDsk).cells):=by
 rw[List.flatMap_append,List.flatMap_cons]
set_option maxHeartbeats 4000000 in
set_option maxRecDepth 100000 in
theorem binSearchDsk (xs:List Desk) (y:Desk) (a:Option Addr) (n c:Nat) (fid:FuncId) (cap:Array Value) (cmp:Desk→ Int) (k0:Nat) (w:World) (hn:xs.length= n) (hl:n≤ 1000000) (hr:LRow layDsk w a xs)
 (hcf:∀(args:Array Value) (w:World),(callFunc fid args).run Tryz.prog w= .ok (.enter fid args) w)
 (hf:∀x∈ xs,∀w',Below w.heap.size w w'→Calls Tryz.prog fid (#[x.agg,y.agg]++cap) w' fun e w''=>e= .returned (.int .i64 (cmp x))∧Below w'.heap.size w' w'')
 (hk0:k0≤ n) (hlo:∀j (h:j< xs.length),j<k0→ cmp xs[j]<0) (hhi:∀j (h:j< xs.length),k0≤j→ 0≤cmp xs[j]):
 Calls Tryz.prog 119 #[.slice a n c,y.agg,.func (.func fid) #[] cap] w fun e w'=>e= .returned (.tuple #[.int .i64 k0,.bool (hitAt cmp xs[k0]?)])∧Below w.heap.size w w':=by
 subst hn
 have HF:=Lib.hid hf
 have HLO:=Lib.hid hlo
 have HHI:=Lib.hid hhi
 have HE:Hid (∀x,xs[k0]? =some x→(hitAt cmp xs[k0]?)=(cmp x==0)):=fun x hx=>by rw[hx];rfl
 have HN:Hid (xs[k0]? =none→ (hitAt cmp xs[k0]?)=false):=fun hx=>by rw[hx];rfl
 generalize hitAt cmp xs[k0]? =res at HE HN ⊢
 clear hf hlo hhi
 have HY:∀w',Below (w.alloc (.cells (Desk.cells y).toArray 66)).heap.size (w.alloc (.cells (Desk.cells y).toArray 66)) w'→w'.rangeAt w.heap.size 0 (Desk.cells y):=fun w' hb j v hv=>by
  rw[Nat.zero_add,own_cells hb j,List.getElem?_toArray,hv]
 have HYY:=Lib.hid HY
 clear HY
 go_enter Tryz.func119,Tryz.ntmps119
 go_wp2
 go_loopw [9,10] (fun si sj wr=>∃i j:Nat,si= .int .i64 i∧sj= .int .i64 j∧i≤ k0∧k0≤ j∧j≤ xs.length∧Hid (Below (w.alloc (.cells (Desk.cells y).toArray 66)).heap.size (w.alloc (.cells (Desk.cells y).toArray 66)) wr)) (fun si sj _=>(intOf sj).toNat-(intOf si).toNat)
 case atStart=>exact ⟨0,xs.length,rfl,rfl,by omega,hk0,by omega,Below.refl _ _⟩
 case round=>
  obtain⟨i,j,rfl,rfl,hik,hkj,hjn,hb⟩:=hrel
  by_cases hlt:i< j
  ·obtain⟨m,hm⟩:∃m: Nat,((i:Int)+(j:Int))/2= (m:Int):=⟨(i+j)/2,by omega⟩
   have him:i≤ m:=by omega
   have hmj:m< j:=by omega
   have hmx:m< xs.length:=by omega
   have HM:=Lib.hid hm
   clear hm
   obtain⟨b,o,rfl,hrg⟩:=atDsk hr hmx
   have hbw:Below w.heap.size w wr:=((Below.refl w.heap.size w).alloc (Nat.le_refl _) _).trans (hb.mono (by simp))
   have hx0:=hrg wr hbw
   have hy0:=cellsDsk (HYY.out wr hb.out)
   simp only[Nat.zero_add]at hy0
   have HX:=Lib.hid hx0
   have HYL:=Lib.hid hy0
   have HF1:=Lib.hid (fun w' hb=>HF.out xs[m] (List.getElem_mem hmx) w' hb)
   have HLO1:=Lib.hid (fun h:m< k0=>HLO.out m hmx h)
   have HHI1:=Lib.hid (fun h:k0≤ m=>HHI.out m hmx h)
   generalize hxm:xs[m]=x at HX HF1 HLO1 HHI1
   clear hrg hx0 hy0 hxm
   go_wp2
   rw[HM.out]
   have hx:=HX.out
   have hy:=HYL.out
   go_still_tail 6,(by kernel_rfl)
   change wpList _ _ _ _ _ wr.drew
   clear hx hy
   go_wp2_with(refine(HF1.out _ hbw.drew).mono ?_;rintro e w4 ⟨rfl,hb4⟩)
   ·have hmk:m< k0:=by
     rcases Nat.lt_or_ge m k0 with h|h
     ·exact h
     ·have:=HHI1.out h;omega
    exact⟨⟨m+1,j,by go_num,rfl,by omega,hkj,hjn,hb.out.drew.trans (hb4.mono hb.out.size)⟩,by simp[intOf];omega⟩
   ·have hmk:k0≤ m:=by
     rcases Nat.lt_or_ge m k0 with h|h
     ·have:=HLO1.out h;omega
     ·exact h
    exact⟨⟨i,m,rfl,rfl,hik,hmk,by omega,hb.out.drew.trans (hb4.mono hb.out.size)⟩,by simp[intOf];omega⟩
  ·obtain rfl:i= k0:=by omega
   have hbw:Below w.heap.size w wr:=((Below.refl w.heap.size w).alloc (Nat.le_refl _) _).trans (hb.out.mono (by simp))
   by_cases hkn:i< xs.length
   ·obtain⟨b,o,rfl,hrg⟩:=atDsk hr hkn
    have hx0:=hrg wr hbw
    have hy0:=cellsDsk (HYY.out wr hb.out)
    simp only[Nat.zero_add]at hy0
    have HX:=Lib.hid hx0
    have HYL:=Lib.hid hy0
    have HF1:=Lib.hid (fun w' hb=>HF.out xs[i] (List.getElem_mem hkn) w' hb)
    have HE1:=Lib.hid (HE.out xs[i] (List.getElem?_eq_getElem hkn))
    have HRG:=Lib.hid hrg
    generalize hxm:xs[i]=x at HX HF1 HE1 HRG
    clear hrg hx0 hy0 hxm HE HN
    have hg8:decide ((i:Int)<(xs.length:Int))=true:= decide_eq_true (by omega)
    go_wp2
    go_region_held3 (fun w'=>(w'.cell? ⟨b,o+i* 8,none⟩=some (.int .i64 x.shaper)∧w'.cell? ⟨b,o+i* 8+1,none⟩=some (.int .i64 x.epoch)∧w'.cell? ⟨b,o+i* 8+2,none⟩=some (.int .i64 x.number)∧w'.cell? ⟨b,o+i* 8+3,none⟩=some (.int .i64 x.answer.e)∧w'.cell? ⟨b,o+i* 8+4,none⟩=some (.int .i64 x.answer.rate)∧w'.cell? ⟨b,o+i* 8+5,none⟩=some (.int .i64 x.answer.burst)∧w'.cell? ⟨b,o+i* 8+6,none⟩=some (.int .i64 x.answer.lease)∧w'.cell? ⟨b,o+i* 8+7,none⟩=some (.int .i64 x.answer.size))∧(w'.cell? ⟨w.heap.size,0,none⟩=some (.int .i64 y.shaper)∧w'.cell? ⟨w.heap.size,1,none⟩=some (.int .i64 y.epoch)∧w'.cell? ⟨w.heap.size,2,none⟩=some (.int .i64 y.number)∧w'.cell? ⟨w.heap.size,3,none⟩=some (.int .i64 y.answer.e)∧w'.cell? ⟨w.heap.size,4,none⟩=some (.int .i64 y.answer.rate)∧w'.cell? ⟨w.heap.size,5,none⟩=some (.int .i64 y.answer.burst)∧w'.cell? ⟨w.heap.size,6,none⟩=some (.int .i64 y.answer.lease)∧w'.cell? ⟨w.heap.size,7,none⟩=some (.int .i64 y.answer.size))) ((first|exact ⟨HX.out,HYL.out⟩|exact ⟨HX4.out,HY4.out⟩)) (first|(refine(HF1.out _ (by first|exact hbw|exact hbw.drew)).mono ?_;rintro e w4 ⟨rfl,hb4⟩;have HX4:=Lib.hid (HRG.out w4 (hbw.drew.trans (hb4.mono hbw.size)));have hy4:=cellsDsk (HYY.out w4 (hb.out.drew.trans (hb4.mono hb.out.size)));simp only[Nat.zero_add]at hy4;have HY4:=Lib.hid hy4;clear hy4))
    go_wp2
    go_returns
    exact⟨by rw[HE1.out];rfl,hbw.drew.trans (hb4.mono hbw.size)⟩
   ·have HN1:=Lib.hid (HN.out (List.getElem?_eq_none (by omega)))
    have hg8:decide ((i:Int)<(xs.length:Int))=false:= decide_eq_false (by omega)
    go_wp2
    go_quiet (fail)
    go_wp2
    go_returns
    exact⟨by rw[HN1.out];rfl,below_drewN hbw _⟩
end Go.Proofs.YtfdmhpohfjbpfaaGreat
namespace Go.Proofs.YtfdmhpohfjbpfaaGreat
open Go.ChangeShapes Go.WideShapes Go.ChangeAt Go.RowKit Go.Maps
set_option maxRecDepth 100000
def keyWh:KeyKind Tryz.prog 158 Int where
 keyed:=Keyed.of_law (deep_law_laid (by kernel_rfl) (m:=20) (by omega) (of_decide_eq_true (by kernel_rfl)) (by kernel_rfl) (by kernel_rfl))
 enc n:= .agg #[.int .i64 n]
 kl n:= .string (keyBytes [.int .i64 n])
 good n:=(Lit.int .i64 n).wf=true
 key n h:=keyOf_struct1 Tryz.underlying158 rfl rfl rfl (by kernel_rfl) (by kernel_rfl) (by kernel_rfl) Tryz.underlying3 ⟨Tryz.prog.types.size-1,by kernel_rfl⟩ h
 inj _ _ h:=by simpa using h
def PlD (l:List Desk) (k:Nat) (f:Int→ Option Int):Prop:=
 ∀id,(f id=none∧ ∀j (h:j< l.length),j<k→ l[j].shaper≠id)∨∃j,∃h: j<l.length,j<k∧ l[j].shaper=id∧ f id=some (j:Int)
theorem PlD.zero (l:List Desk):PlD l 0 (fun _=>none):=fun id=> .inl ⟨rfl,fun j _ hj=>by omega⟩
theorem PlD.next {l:List Desk} {k:Nat} {f:Int→ Option Int} (h:PlD l k f) (hk:k< l.length):PlD l (k+1) (upd f l[k].shaper (k:Int)):=fun id=>by
 unfold upd
 by_cases e:id= l[k].shaper
 ·rw[if_pos e];exact .inr ⟨k,hk,by omega,e.symm,rfl⟩
 ·rw[if_neg e]
  rcases h id with⟨h1,h2⟩|⟨j,hj,h1,h2,h3⟩
  ·refine .inl ⟨h1,fun j hj hjk=> ?_⟩
   by_cases e2:j= k
   ·subst e2;exact fun h=>e h.symm
   ·exact h2 j hj (by omega)
  ·exact .inr ⟨j,hj,by omega,h2,h3⟩
theorem PlD.find {l:List Desk} {f:Int→ Option Int} (h:PlD l l.length f) (hs:dsksOk l=true) (id:Int):
 (f id=none∧ findK Desk.shaper l id=none)∨∃j,∃hj: j<l.length,f id=some (j:Int)∧findK Desk.shaper l id=some l[j]∧l[j].shaper=id:= by
 rcases h id with⟨h1,h2⟩|⟨j,hj,h1,h2,h3⟩
 ·exact .inl ⟨h1,findK_none fun j hj=>h2 j hj hj⟩
 ·exact .inr ⟨j,hj,h3,findK_at (chainOk_iff.1 hs).2 hj h2,h2⟩
theorem dsksOk_wf {l:List Desk} (hs:dsksOk l=true):∀d∈ l,1≤d.shaper∧ d.shaper≤8∧ 1≤d.epoch∧ 1≤d.number:= fun d h=>by
 have h1:=(chainOk_iff.1 hs).1 d h
 have h2:=h1.2
 unfold dskGood at h2
 simp only[Bool.and_eq_true,decide_eq_true_eq]at h2
 omega
theorem grantC_bad {s:St} {c:WCmd} (h:deskBad c):grantC s c=(s,Ans.err 2):=by unfold grantC;rw[if_pos h]
theorem grantC_far {s:St} {c:WCmd} (h:¬deskBad c) (hf:findK Desk.shaper s.dsks c.shaper=none):grantC s c=grantNew s c:=by unfold grantC;rw[if_neg h,hf]
theorem grantC_old {s:St} {c:WCmd} {d:Desk} (h:¬deskBad c) (hf:findK Desk.shaper s.dsks c.shaper=some d) (ho:deskOld c d):grantC s c=(s,Ans.err 150):=by unfold grantC;rw[if_neg h,hf];simp only;rw[if_pos ho]
theorem grantC_told {s:St} {c:WCmd} {d:Desk} (h:¬deskBad c) (hf:findK Desk.shaper s.dsks c.shaper=some d) (ho:¬deskOld c d) (ht:deskTold c d):grantC s c=(s,d.answer):=by unfold grantC;rw[if_neg h,hf];simp only;rw[if_neg ho,if_pos ht]
theorem grantC_here {s:St} {c:WCmd} {d:Desk} (h:¬deskBad c) (hf:findK Desk.shaper s.dsks c.shaper=some d) (ho:¬deskOld c d) (ht:¬deskTold c d):grantC s c=grantNew s c:=by unfold grantC;rw[if_neg h,hf];simp only;rw[if_neg ho,if_neg ht]
end Go.Proofs.YtfdmhpohfjbpfaaGreat
namespace Go.Proofs.YtfdmhpohfjbpfaaGreat
open Go.ChangeShapes Go.WideShapes Go.ChangeAt Go.RowKit
set_option maxRecDepth 100000
theorem rangeAt_app {w:World} {b o:Nat} {xs ys:List Value} (h:w.rangeAt b o xs) (h2:w.rangeAt b (o+xs.length) ys):w.rangeAt b o (xs++ys):=fun j v hj=>by
 by_cases h1:j< xs.length
 ·rw[List.getElem?_append_left h1]at hj;exact h j v hj
 ·rw[List.getElem?_append_right (by omega)]at hj
  have:=h2 _ v hj
  rw[show o+xs.length+ (j-xs.length)=o+ j by omega]at this
  exact this
theorem rangeAt_take {w:World} {b o:Nat} {xs:List Value} (k:Nat) (h:w.rangeAt b o xs):w.rangeAt b o (xs.take k):=fun j v hj=>by
 have hk:j< k:=by have:=(List.getElem?_eq_some_iff.1 hj).1;rw[List.length_take]at this;omega
 rw[List.getElem?_take,if_pos hk]at hj;exact h j v hj
theorem rangeAt_drop {w:World} {b o:Nat} {xs:List Value} (k:Nat) (h:w.rangeAt b o xs):w.rangeAt b (o+k) (xs.drop k):=fun j v hj=>by
 rw[List.getElem?_drop]at hj
 have:=h _ v hj
 rw[←Nat.add_assoc]at this
 exact this
theorem erase_parts {α:Type} (xs:List α) (i:Nat):xs.eraseIdx i=xs.take i++xs.drop (i+1):=List.eraseIdx_eq_take_drop_succ xs i
set_option maxHeartbeats 2000000 in
theorem delete_at (xs:List Lease) (B g n c i:Nat) (w:World) (hn:xs.length= n) (hnc:n≤ c) (hl:c≤ maxLen) (hm:Mine layLea w B g 0 xs) (hi:i< n):
 Calls Tryz.prog 125 #[.slice (some ⟨g,0,none⟩) n c,.int .i64 i,.int .i64 ((i:Int)+1)] w (RetDelOLea g w (some ⟨g,0,none⟩) c (xs.eraseIdx i)):=by
 subst hn
 have hl2:=lt_maxLen hl
 have hlm:xs.length≤ maxLen:=Nat.le_trans hnc hl
 have hlen2:(xs.eraseIdx i).length=xs.length- 1:=List.length_eraseIdx_of_lt hi
 obtain⟨j,hj⟩:∃j: Nat,j=i+ 1:=⟨_,rfl⟩
 rw[show((i:Int)+1)=((j:Nat):Int) by omega]
 obtain⟨news,hnews⟩:∃news,news=(xs.drop j).flatMap layLea.cells:=⟨_,rfl⟩
 have hlen:news.length= (xs.length-j)*7:= by rw[hnews,layLea.length,List.length_drop];rfl
 have hall:(xs.flatMap layLea.cells).drop (j*7)=news:= by rw[hnews];exact flatMap_drop layLea.len xs j
 have hfirst:(xs.flatMap layLea.cells).take (i*7)=(xs.take i).flatMap layLea.cells:=flatMap_take layLea.len xs i
 have hr1:w.rangeAt g (j*7) news:=by
  have:=rangeAt_drop (j*7) hm.2.1
  rw[hall,Nat.zero_add]at this;exact this
 have hr0:w.rangeAt g 0 ((xs.take i).flatMap layLea.cells):=by rw[←hfirst];exact rangeAt_take _ hm.2.1
 have hth:w.there g 0 (xs.length*7):=hm.2.2
 obtain⟨A,hA,hsrc⟩:∃A: Addr,(if c=j then some (⟨g,0,none⟩:Addr)else some ⟨g,j*7,none⟩)=some A∧Hid (∀t u,news[t]? =some u→w.drew.cell? (A.add t)=some u):=by
  by_cases h:c= j
  ·refine⟨⟨g,0,none⟩,by simp[h],fun t u hu=> ?_⟩
   have h0:news.length= 0:=by rw[hlen];omega
   rw[List.length_eq_zero_iff.1 h0]at hu
   simp at hu
  ·refine⟨⟨g,j*7,none⟩,by simp[h],fun t u hu=> ?_⟩
   have:=hr1 t u hu
   by_cases ht:t= 0
   ·subst ht;simpa[Addr.add]using this
   ·simpa[Addr.add,ht]using this
 have s1:Hid (news.length=(xs.length-j)*7):=hlen
 have s2:Hid (∀u∈ news,u.oneCell'=true):=by rw[hnews];exact layLea.ones _
 have s3:Hid (∀t,t<news.length→ (w.drew.cell? ⟨g,0+i* 7+t,none⟩).isSome=true∧ w.drew.frozen? ⟨g,0+i* 7+t,none⟩=false):=by
  intro t ht
  rw[hlen]at ht
  have:=hth (i*7+ t) (by omega)
  rw[←Nat.add_assoc]at this
  exact this
 obtain⟨W1,hW1⟩:∃W1,W1=w.drew.setCells g (0+i* 7) news:=⟨_,rfl⟩
 have hth0:w.drew.there g 0 (xs.length*7):=hth
 have hW:Hid (W1=w.drew.setCells g (0+i* 7) news):=hW1
 have hthn:w.drew.there g (0+i* 7) news.length:=fun t ht=>s3.out t ht
 have HM1:Hid (W1.rangeAt g 0 ((xs.eraseIdx i).flatMap layLea.cells)):=by
  show World.rangeAt _ _ _ _
  rw[hW1,erase_parts,List.flatMap_append,←hj,←hnews]
  have hl0:((xs.take i).flatMap layLea.cells).length=i* 7:=by rw[layLea.length,List.length_take,Nat.min_eq_left (by omega)];rfl
  refine rangeAt_app (World.rangeAt_setCells_apart (w:=w.drew) hr0 _ _ _ (.inr (.inl (by rw[hl0];exact Nat.le_refl _)))) ?_
  rw[hl0]
  exact World.rangeAt_setCells_same w.drew g (0+i* 7) news hthn
 have hlast:i+ (xs.length-j)=xs.length- 1:=by omega
 have hone:xs.length- (i+(xs.length-j))=1:= by omega
 have HTH:Hid (W1.there g ((i+(xs.length-j))*7) ((xs.length-(i+(xs.length-j)))*7)):=by
  show World.there _ _ _ _
  rw[hW1,hone,hlast]
  refine World.there_setCells (fun t ht=> ?_) _ _ _
  have:=hth0 ((xs.length-1)*7+ t) (by omega)
  rw[Nat.zero_add]at this
  exact this
 have HO1:Hid (Only g w W1):=by
  show Only _ _ _
  rw[hW1]
  exact(Only.refl g w).put (fun B hB=>Below.setCells hB _ _ ((Below.refl B w).drew)) (fun k hk=>setCells_keep g _ _ w.drew k hk)
 have HLN:=Lib.hid hlen2
 clear hlast hone hW1 hth0 hthn hth hr0 hr1 hfirst hall hlen hlen2 hnews hm
 generalize xs.eraseIdx i=res at HM1 HLN ⊢
 obtain⟨i0,hi0,hz1⟩:∃i0,Tryz.prog.info? 59=some i0∧i0.size= 7:=by
  obtain⟨i0,z,h1,h2,h3,_⟩:=layLea.parts
  exact⟨i0,h1,h3⟩
 go_enter Tryz.func125,Tryz.ntmps125
 have hic:i≤ c:=by omega
 have hjc:j≤ c:=by omega
 have hjn:j≤ xs.length:=by omega
 have hij:i< j:=by omega
 have hij2:((i:Int)==(j:Int))=false:= by rw[beq_eq_false_iff_ne];omega
 have HJ:=Lib.hid hj
 clear hj
 go_wp2_with fail
 go_region_law (refine step_append_room rfl (.tmp 22) (.tmp 25) 23 rfl 59 i0 7 Tryz.underlying23 hi0 hz1 g 0 i c (by simp[Act.eval,Act.put]) A (xs.length-j) (c-j) news (by simp[Act.eval,Act.put]) s1.out hsrc.out s2.out (by omega) s3.out ?_;rw[←hW.out])
 go_wp2_with(refine wpList_clear_lay layLea Tryz.underlying23 rfl (.tmp 31) rfl g ((i+(xs.length-j))*7) (xs.length-(i+(xs.length-j))) (c-(i+(xs.length-j))) rfl HTH.out ?_;intro zs _;obtain⟨W5,hW5⟩:∃W5,W5=W1.setCells g ((i+(xs.length-j))*7) zs:=⟨_,rfl⟩;have HW5:=Lib.hid hW5;rw[←hW5];clear hW5)
 go_returns
 have hres:res.length= i+(xs.length-j):=by have:=HLN.out;have:=HJ.out;omega
 refine⟨by rw[hres];rfl,?_,?_⟩
 ·have hr:W5.rangeAt g 0 (res.flatMap layLea.cells):=by
   rw[HW5.out]
   refine World.rangeAt_setCells_apart HM1.out _ _ _ (.inr (.inl ?_))
   rw[layLea.length,hres,Nat.zero_add];exact Nat.le_refl _
  exact .inr ⟨g,0,rfl,fun k hk=>hr k _ (List.getElem?_eq_getElem hk)⟩
 ·rw[HW5.out]
  exact HO1.out.put (fun B hB=>Below.setCells hB _ _ (Below.refl B W1)) (fun k hk=>setCells_keep g _ _ W1 k hk)
theorem report2_any (x:Lease) (sh ep le:Int) (gl gs ge:Nat) (w:World) (hc1:w.cell? ⟨gl,0,none⟩=some (.int .i64 le)) (hc2:w.cell? ⟨gs,0,none⟩=some (.int .i64 sh)) (hc3:w.cell? ⟨ge,0,none⟩=some (.int .i64 ep)):
 Calls Tryz.prog 124 #[x.agg,.pointer (some ⟨gl,0,none⟩),.pointer (some ⟨gs,0,none⟩),.pointer (some ⟨ge,0,none⟩)] w fun e w'=>e= .returned (.bool (leaIs sh ep le x))∧Below w.heap.size w w':=by
 have hlt1:=World.block_lt_of_cell? w _ hc1
 have hlt2:=World.block_lt_of_cell? w _ hc2
 have hlt3:=World.block_lt_of_cell? w _ hc3
 simp only at hlt1 hlt2 hlt3
 obtain⟨x0,x1,x2,x3,x4,x5,x6⟩:=x
 have HR:Hid (leaIs sh ep le ⟨x0,x1,x2,x3,x4,x5,x6⟩=decide (x0=le∧ x2=sh∧ x3=ep)):=rfl
 by_cases e1:x0= le
 ·go_enter Tryz.func124,Tryz.ntmps124
  go_wp2
  all_goals(go_returns;exact⟨ret_bool (by rw[HR.out];simp_all),belo⟩)
 ·go_enter Tryz.func124,Tryz.ntmps124
  go_wp2
  all_goals(go_returns;exact⟨ret_bool (by rw[HR.out];simp_all),belo⟩)
theorem enter_report2 (args:Array Value) (w:World):(callFunc 124 args).run Tryz.prog w= .ok (.enter 124 args) w:=by kernel_rfl
structure OthersDsk (a:Option Addr) (w w':World):Prop where
 os:w'.os= w.os
 tape:w'.tape= w.tape
 output:w'.output= w.output
 size:w.heap.size≤ w'.heap.size
 block:∀k,k<w.heap.size→ (∀o s,a≠some ⟨k,o,s⟩)→w'.heap[k]? =w.heap[k]?
theorem OthersDsk.of_below {a:Option Addr} {w w':World} (h:Below w.heap.size w w'):OthersDsk a w w':=⟨h.os,h.tape,h.output,h.size,fun k hk _=>h.block k hk⟩
theorem OthersDsk.of_grown {a:Option Addr} {n c B:Nat} {w w':World} (h:Below B w w') (hg:w.grownBy w' (Value.slice a n c).ownBlock):OthersDsk a w w':=⟨h.os,h.tape,h.output,h.size,fun k hk hne=>hg.block k hk (by
 cases a with|none=> simp[Value.ownBlock]|some x=>
  obtain⟨b,o,s⟩:=x
  simp only[Value.ownBlock,ne_eq,Option.some.injEq]
  intro e;exact hne o s (by rw[e]))⟩
def RetInsODsk (B:Nat) (w:World) (a:Option Addr) (xs:List Desk) (e:Ending) (w':World):Prop:=
 ∃a' c',e= .returned (.slice a' xs.length c')∧w'.ownsRow B 66 (layDsk).size (.slice a' xs.length c') xs.length (xs.flatMap (layDsk).cells)∧Below B w w'∧OthersDsk a w w'
set_option maxHeartbeats 4000000 in
theorem insertEndODsk (xs:List Desk) (x:Desk) (n c:Nat) (a:Option Addr) (vb:Nat) (te:TypeId) (B:Nat) (w:World) (hn:xs.length= n) (hcan:Can w B 66 (layDsk).size a n c (xs.flatMap (layDsk).cells))
 (hv:w.heap[vb]? =some (.cells ((layDsk).cells x).toArray te (0,0))) (hby:(n+1)*(layDsk).bytes≤140737488355328) (hB:B≤ w.heap.size):
 Calls Tryz.prog 121 #[.slice a n c,.int .i64 n,.slice (some ⟨vb,0,none⟩) 1 1] w (RetInsODsk B w a (xs++[x])):=by
 have hle:=hcan.le
 have hmx:=hcan.2.1
 have hsm:=lt_maxLen hmx
 have hbp:=(layDsk).bpos
 have hcc:c≤ 9223372036854775807:=by
  rcases hcan.2.2 with⟨h,_⟩|h
  ·omega
  ·obtain⟨_,_,hv,_,h2,_⟩:=own_slice h
   simp only[Value.slice.injEq]at hv
   have:=lt_maxLen h2
   omega
 have hrv:Row w (some ⟨vb,0,none⟩) ((layDsk).cells x):=by have:=Row.of_block hv;simpa using this
 have HC:=Lib.hid hcan
 have HV:=Lib.hid hrv
 have h1v:=(layDsk).one x
 have H1:=Lib.hid h1v
 have HL:=Lib.hid ((layDsk).len x)
 clear hcan hrv hv h1v
 go_enter Tryz.func121,Tryz.ntmps121
 go_wp2_with(at_builtin;refine wpList_can ((layDsk).elem Tryz.underlying25) rfl (.tmp 23) (.tmp 24) rfl B a n c _ rfl HC.out (some ⟨vb,0,none⟩) 1 1 ((layDsk).cells x) rfl (by rw[HL.out,Nat.one_mul]) HV.out H1.out hby hB ?_;intro a' c' w' hcan' hgr' hb' hown')
 all_goals
  go_returns
  subst hn
  refine⟨a',c',by rw[List.length_append];rfl,?_,hb',.of_grown hb' hgr'⟩
  have:=hown'.1 (by omega)
  rw[List.length_append,List.flatMap_append,List.flatMap_cons,List.flatMap_nil,List.append_nil]
  exact this
set_option maxHeartbeats 4000000 in
theorem insertGrowODsk (xs:List Desk) (x:Desk) (i n c g:Nat) (vb:Nat) (te:TypeId) (B:Nat) (w:World) (hn:xs.length= n) (hi:i< n) (hc:c< n+1) (hown:w.ownsRow B 66 (layDsk).size (.slice (some ⟨g,0,none⟩) n c) n (xs.flatMap (layDsk).cells))
 (hv:w.heap[vb]? =some (.cells ((layDsk).cells x).toArray te (0,0))) (hby:(n+1)*(layDsk).bytes≤140737488355328) (hB:B≤ w.heap.size):
 Calls Tryz.prog 121 #[.slice (some ⟨g,0,none⟩) n c,.int .i64 i,.slice (some ⟨vb,0,none⟩) 1 1] w (RetInsODsk B w (some ⟨g,0,none⟩) (xs.take i++x:: xs.drop i)):=by
 obtain⟨hBg,hnc,hcm,hAl,D,hg,hCl⟩:=own_whole hown
 have hbp:=(layDsk).bpos
 have hsp:=(layDsk).pos
 have hn1:n+ 1≤140737488355328:= Nat.le_trans (Nat.le_mul_of_pos_right _ hbp) hby
 have hAB:xs.flatMap (layDsk).cells=(xs.take i).flatMap (layDsk).cells++(xs.drop i).flatMap (layDsk).cells:=by rw[←List.flatMap_append,List.take_append_drop]
 have hal:((xs.take i).flatMap (layDsk).cells).length=i* (layDsk).size:=by rw[(layDsk).length,List.length_take];congr 1;omega
 have hbl:((xs.drop i).flatMap (layDsk).cells).length=(n-i)*(layDsk).size:=by rw[(layDsk).length,List.length_drop,hn]
 have hxl:=(layDsk).len x
 have h1x:=(layDsk).one x
 have h1b:=(layDsk).ones (xs.drop i)
 have hrl:(xs.take i++x:: xs.drop i).length=n+ 1:=by simp;omega
 have hrc:=midDsk_cells xs x i
 generalize hR:(xs.take i++x:: xs.drop i)=res at hrl hrc ⊢
 generalize hxa:(xs.take i).flatMap (layDsk).cells=A at hAB hal hrc
 generalize hxb:(xs.drop i).flatMap (layDsk).cells=Bs at hAB hbl h1b hrc
 generalize hxc:(layDsk).cells x=X at hv hxl h1x hrc
 rw[hAB]at hg
 have hcellg:∀j u,(A++Bs)[j]? =some u→w.cell? ⟨g,0+j,none⟩=some u:=fun j u hj=>by
  have hlt:=(List.getElem?_eq_some_iff.1 hj).1
  simp only[World.cell?,hg,Nat.zero_add,Option.isSome_none,Bool.false_eq_true,if_false]
  rw[List.getElem?_toArray,List.getElem?_append_left hlt,hj]
 have hgl:g< w.heap.size:=(Array.getElem?_eq_some_iff.1 hg).1
 have hvl:vb< w.heap.size:=(Array.getElem?_eq_some_iff.1 hv).1
 have hvc:∀j u,X[j]? =some u→w.cell? ⟨vb,0+j,none⟩=some u:=fun j u hj=>by
  simp only[World.cell?,hv,Nat.zero_add,Option.isSome_none,Bool.false_eq_true,if_false]
  rw[List.getElem?_toArray,hj]
 obtain⟨w1,g1,c1,Z,hrun,hg1,hc1,hcm1,hh1,hl1,hb1,hs1⟩:=run_append_zeros layDsk Tryz.underlying25 Tryz.underlying3 25 w g 0 i c (n+1- i) A hal (fun j u hj=>hcellg j u (by rw[List.getElem?_append_left (List.getElem?_eq_some_iff.1 hj).1];exact hj)) (by omega) (by omega) (by rw[show i+(n+1- i)=n+ 1 by omega];exact hby)
 have hkk:(n:Int)+1- (i:Int)=((n+1- i:Nat):Int):=by omega
 rw[←hkk,show i+(n+1- i)=n+ 1 by omega]at hrun
 rw[show i+(n+1- i)=n+ 1 by omega]at hc1
 have hZl:Z.length+ i*(layDsk).size=c1* (layDsk).size:=by rw[List.length_append,hal]at hl1;omega
 have hZ1:(n+1)*(layDsk).size≤c1* (layDsk).size:=Nat.mul_le_mul_right _ hc1
 have hni:(n+1)*(layDsk).size=i* (layDsk).size+(layDsk).size+(n-i)*(layDsk).size:=by rw[←Nat.succ_mul,←Nat.add_mul];congr 1;omega
 have hp1:A++ Z=A++ (Z.take (layDsk).size++Z.drop (layDsk).size):=by rw[List.take_append_drop]
 rw[hp1]at hh1
 have hp2:Z.drop (layDsk).size=(Z.drop (layDsk).size).take ((n-i)*(layDsk).size)++(Z.drop (layDsk).size).drop ((n-i)*(layDsk).size):=by rw[List.take_append_drop]
 have hZa:(Z.take (layDsk).size).length=X.length:= by rw[List.length_take,hxl];omega
 have hZb:((Z.drop (layDsk).size).take ((n-i)*(layDsk).size)).length=Bs.length:= by rw[List.length_take,List.length_drop,hbl];omega
 have hZc:((Z.drop (layDsk).size).drop ((n-i)*(layDsk).size)).length+(n+1)*(layDsk).size=c1* (layDsk).size:=by rw[List.length_drop,List.length_drop];omega
 rw[hp2]at hh1
 generalize Z.take (layDsk).size=M1 at hh1 hZa
 generalize(Z.drop (layDsk).size).take ((n-i)*(layDsk).size)=M2 at hh1 hZb
 generalize(Z.drop (layDsk).size).drop ((n-i)*(layDsk).size)=R2 at hh1 hZc
 have hAX:(A++X).length=(i+1)*(layDsk).size:=by rw[List.length_append,hal,hxl,Nat.succ_mul]
 have hcm1':=lt_maxLen hcm1
 have hcm':=lt_maxLen hcm
 have RUN:=Lib.hid hrun
 have HH1:=Lib.hid hh1
 have HVC:=Lib.hid (fun j u hj=>((hb1.cell (p:=⟨vb,0+j,none⟩) hvl).trans (hvc j u hj)))
 have HCG:=Lib.hid (fun j u hj=>((hb1.cell (p:=⟨g,0+j,none⟩) hgl).trans (hcellg j u hj)))
 have hgg:g≠ g1:=by omega
 have HMA:=Lib.hid hZa
 have HMB:=Lib.hid hZb
 have H1X:=Lib.hid h1x
 have H1B:=Lib.hid h1b
 have HAL:=Lib.hid hal
 have HXL:=Lib.hid hxl
 have HBL:=Lib.hid hbl
 have HAX:=Lib.hid hAX
 have HZC:=Lib.hid hZc
 have HRC:=Lib.hid hrc
 have HRL:=Lib.hid hrl
 clear hp1 hp2 hl1 hcellg hvc hrun hkk hh1 hg hv hown hAB hxa hxb hxc hR hZa hZb h1x h1b hal hxl hbl hAX hZl hZ1 hni hZc hrc hrl hAl hCl
 have hg1':=Lib.hid hg1
 clear hg1
 have hc1i:¬c1= i:=by omega
 have hci:¬c= i:=by omega
 have hin:¬(i:Int)=(n:Int):=by omega
 have hc1j:¬c1= i+1:= by omega
 have hw1:IntKind.i64.wrap ((i:Int)+1)=(i:Int)+1:= IntWalk.i64_in _ ⟨by omega,by omega⟩
 have hb0:(0:Int)≤(i:Int)+1:= by omega
 have htn:((i:Int)+1).toNat=i+ 1:=by omega
 have hb3:(i:Int)≤(n:Int):=by omega
 have hb4:i≤ n:=by omega
 go_enter Tryz.func121,Tryz.ntmps121
 go_wp2_with(first|(at_builtin;refine Lib.wpList_append_run _ rfl (.tmp 34) (.tmp 39) _ _ rfl _ _ rfl rfl _ _ RUN.out ?_)|(refine wpList_copy_whole layDsk Tryz.underlying25 rfl (.tmp 43) (.tmp 44) rfl g1 (i*(layDsk).size) A M1 (M2++R2) X 66 HH1.out HAL.out HMA.out H1X.out (n+1- i) (c1-i) 1 1 1 ⟨vb,0,none⟩ (Nat.min_eq_left (by omega)) (by rw[HXL.out,Nat.one_mul]) (fun j u hj=>by rw[Addr.add_mid];exact HVC.out j u hj) rfl rfl ?_;intro w2 hh2 hb2 ho2 hs2;have HH2:=Lib.hid hh2;have HB2:=Lib.hid hb2;have HO2:=Lib.hid ho2;clear hh2 hb2 ho2))
 go_still_tail 8,(by kernel_rfl)
 change wpList _ _ _ _ _ w2.drew
 have hd2:Below w.heap.size w2 w2.drew:=(Below.refl _ _).drew
 have HH3:Hid (w2.drew.heap[g1]? =some (.cells (A++(X++(M2++R2))).toArray 66 (0,0))):=HH2.out
 have HCG3:Hid (∀j u,(A++Bs)[j]? =some u→w2.drew.cell? ⟨g,0+j,none⟩=some u):=fun j u hj=>by
  have:w2.drew.cell? ⟨g,0+j,none⟩=w1.cell? ⟨g,0+j,none⟩:=World.cell?_of_block (w:=w1) (HO2.out g hgg)
  rw[this];exact HCG.out j u hj
 generalize w2.drew=w3 at hd2 HH3 HCG3 ⊢
 clear HH2 HO2
 refine wpList_copy_whole layDsk Tryz.underlying25 rfl (.tmp 50) (.tmp 53) rfl g1 ((i+1)*(layDsk).size) (A++X) M2 R2 Bs 66 (by rw[List.append_assoc];exact HH3.out) HAX.out HMB.out H1B.out (n-i) (c1-(i+1)) (n-i) (c-i) (n-i) ⟨g,i*(layDsk).size,none⟩ (Nat.min_self _) HBL.out (fun j u hj=>by
  rw[Addr.add_mid]
  have:=HCG3.out (i*(layDsk).size+j) u (by rw[List.getElem?_append_right (by rw[HAL.out];omega),HAL.out,Nat.add_sub_cancel_left];exact hj)
  rw[Nat.zero_add]at this;exact this) (by simp[Act.eval];first|rfl| omega) rfl ?_
 intro w4 hh4 hb4 ho4 hs4
 have HH4:=Lib.hid hh4
 have HB4:=Lib.hid hb4
 clear hh4 hb4 ho4
 go_wp2
 go_returns
 have hfin:w4.heap[g1]? =some (.cells ((A++(X++Bs))++R2).toArray 66 (0,0)):=by rw[HH4.out];congr 3;simp
 have hres:(A++(X++Bs)).length=(n+1)*(layDsk).size:=by rw[←HRC.out,(layDsk).length,HRL.out]
 refine⟨some ⟨g1,0,none⟩,c1,by rw[HRL.out];rfl,?_,?_⟩
 ·rw[HRL.out,HRC.out]
  exact own_of_whole (D:=R2) (by rw[hg1'.out];exact hB) hc1 hcm1 hres hfin (by rw[List.length_append,hres];have:=HZC.out;omega)
 ·have q1:Below B w w2:=(hb1.mono hB).trans (HB2.out B (by rw[hg1'.out];exact hB))
  have q2:Below w.heap.size w w2:=hb1.trans (HB2.out _ (by rw[hg1'.out];exact Nat.le_refl _))
  exact⟨(q1.trans (hd2.mono hB)).trans (HB4.out B (by rw[hg1'.out];exact hB)),.of_below ((q2.trans hd2).trans (HB4.out _ (by rw[hg1'.out];exact Nat.le_refl _)))⟩
set_option maxHeartbeats 4000000 in
set_option maxRecDepth 100000 in
theorem insertShiftODsk (xs:List Desk) (x:Desk) (i n c g:Nat) (vb:Nat) (te:TypeId) (B:Nat) (w:World) (hn:xs.length= n) (hi:i< n) (hc:n+ 1≤c) (hown:w.ownsRow B 66 (layDsk).size (.slice (some ⟨g,0,none⟩) n c) n (xs.flatMap (layDsk).cells))
 (hv:w.heap[vb]? =some (.cells ((layDsk).cells x).toArray te (0,0))) (hne:vb≠ g) (hby:(n+1)*(layDsk).bytes≤140737488355328):
 Calls Tryz.prog 121 #[.slice (some ⟨g,0,none⟩) n c,.int .i64 i,.slice (some ⟨vb,0,none⟩) 1 1] w (RetInsODsk B w (some ⟨g,0,none⟩) (xs.take i++x:: xs.drop i)):=by
 obtain⟨hBg,hnc,hcm,hAl,D,hg,hCl⟩:=own_whole hown
 have hbp:=(layDsk).bpos
 have hsp:=(layDsk).pos
 have hn1:n+ 1≤140737488355328:= Nat.le_trans (Nat.le_mul_of_pos_right _ hbp) hby
 have hAB:xs.flatMap (layDsk).cells=(xs.take i).flatMap (layDsk).cells++(xs.drop i).flatMap (layDsk).cells:=by rw[←List.flatMap_append,List.take_append_drop]
 have hal:((xs.take i).flatMap (layDsk).cells).length=i* (layDsk).size:=by rw[(layDsk).length,List.length_take];congr 1;omega
 have hbl:((xs.drop i).flatMap (layDsk).cells).length=(n-i)*(layDsk).size:=by rw[(layDsk).length,List.length_drop,hn]
 have hxl:=(layDsk).len x
 have h1x:=(layDsk).one x
 have h1b:=(layDsk).ones (xs.drop i)
 have hrl:(xs.take i++x:: xs.drop i).length=n+ 1:=by simp;omega
 have hrc:=midDsk_cells xs x i
 have hov:=fun (o lb cb:Nat)=>overlapsDsk_no w vb g o 1 1 lb cb te 66 _ _ hne hv hg (by
  rw[List.size_toArray,hCl]
  have:=Nat.mul_pos (show 0<c by omega) hsp
  omega)
 generalize hR:(xs.take i++x:: xs.drop i)=res at hrl hrc ⊢
 generalize hxa:(xs.take i).flatMap (layDsk).cells=A at hAB hal hrc
 generalize hxb:(xs.drop i).flatMap (layDsk).cells=Bs at hAB hbl h1b hrc
 generalize hxc:(layDsk).cells x=X at hv hxl h1x hrc
 rw[hAB]at hg hCl
 have hvl:vb< w.heap.size:=(Array.getElem?_eq_some_iff.1 hv).1
 have hvc:∀j u,X[j]? =some u→w.cell? ⟨vb,0+j,none⟩=some u:=fun j u hj=>by
  simp only[World.cell?,hv,Nat.zero_add,Option.isSome_none,Bool.false_eq_true,if_false]
  rw[List.getElem?_toArray,hj]
 have hcellg:∀j u,(A++Bs)[j]? =some u→w.cell? ⟨g,0+j,none⟩=some u:=fun j u hj=>by
  have hlt:=(List.getElem?_eq_some_iff.1 hj).1
  simp only[World.cell?,hg,Nat.zero_add,Option.isSome_none,Bool.false_eq_true,if_false]
  rw[List.getElem?_toArray,List.getElem?_append_left hlt,hj]
 have hcs:=Nat.mul_le_mul_right (layDsk).size hc
 have hni:(n+1)*(layDsk).size=i* (layDsk).size+(layDsk).size+(n-i)*(layDsk).size:=by rw[←Nat.succ_mul,←Nat.add_mul];congr 1;omega
 have hi1:(i+1)*(layDsk).size=i* (layDsk).size+(layDsk).size:=Nat.succ_mul _ _
 have hT:Bs++ D=(Bs++D).take (layDsk).size++(((Bs++D).drop (layDsk).size).take ((n-i)*(layDsk).size)++((Bs++D).drop (layDsk).size).drop ((n-i)*(layDsk).size)):=by rw[List.take_append_drop,List.take_append_drop]
 have hTl:(Bs++D).length+i* (layDsk).size=c* (layDsk).size:=by rw[List.length_append,List.length_append,hal]at hCl;rw[List.length_append];omega
 have hMa:((Bs++D).take (layDsk).size).length=X.length:= by rw[List.length_take,hxl];omega
 have hMb:(((Bs++D).drop (layDsk).size).take ((n-i)*(layDsk).size)).length=Bs.length:= by rw[List.length_take,List.length_drop,hbl];omega
 have hMc:(((Bs++D).drop (layDsk).size).drop ((n-i)*(layDsk).size)).length+(n+1)*(layDsk).size=c* (layDsk).size:=by rw[List.length_drop,List.length_drop];omega
 rw[List.append_assoc,hT]at hg
 generalize(Bs++D).take (layDsk).size=M1 at hg hMa
 generalize((Bs++D).drop (layDsk).size).take ((n-i)*(layDsk).size)=M2 at hg hMb
 generalize((Bs++D).drop (layDsk).size).drop ((n-i)*(layDsk).size)=R2 at hg hMc
 have hAM:(A++M1).length=(i+1)*(layDsk).size:=by rw[List.length_append,hal,hMa,hxl,Nat.succ_mul]
 have hcm':=lt_maxLen hcm
 have HG:=Lib.hid hg
 have HVC:=Lib.hid hvc
 have HCG:=Lib.hid hcellg
 have HMA:=Lib.hid hMa
 have HMB:=Lib.hid hMb
 have H1X:=Lib.hid h1x
 have H1B:=Lib.hid h1b
 have HAL:=Lib.hid hal
 have HXL:=Lib.hid hxl
 have HBL:=Lib.hid hbl
 have HAM:=Lib.hid hAM
 have HMC:=Lib.hid hMc
 have HRC:=Lib.hid hrc
 have HRL:=Lib.hid hrl
 clear hT hTl hcellg hvc hg hv hown hAB hxa hxb hxc hR hMa hMb h1x h1b hal hxl hbl hAM hni hi1 hcs hMc hrc hrl hAl hCl
 have hci:¬c= i:=by omega
 have hin:¬(i:Int)=(n:Int):=by omega
 have hcj:¬c= i+1:= by omega
 have hw1:IntKind.i64.wrap ((i:Int)+1)=(i:Int)+1:= IntWalk.i64_in _ ⟨by omega,by omega⟩
 have hb0:(0:Int)≤(i:Int)+1:= by omega
 have htn:((i:Int)+1).toNat=i+ 1:=by omega
 have hb3:(i:Int)≤(n:Int):=by omega
 have hb4:i≤ n:=by omega
 have hb5:(i:Int)≤(n:Int)+1:= by omega
 have hb6:i≤ n+1:= by omega
 go_enter Tryz.func121,Tryz.ntmps121
 go_wp2_with(simp only[hov])
 go_still_tail 8,(by kernel_rfl)
 change wpList _ _ _ _ _ w.drew
 have hd2:Below g w w.drew:=(Below.refl _ _).drew
 have HH0:Hid (∀k: Nat,w.drew.heap[k]? =w.heap[k]?):=fun (k:Nat)=>(rfl:w.drew.heap[k]? =w.heap[k]?)
 have HG3:Hid (w.drew.heap[g]? =some (.cells (A++(M1++(M2++R2))).toArray 66 (0,0))):=HG.out
 have HCG3:Hid (∀j u,(A++Bs)[j]? =some u→w.drew.cell? ⟨g,0+j,none⟩=some u):=HCG.out
 have HVC3:Hid (∀j u,X[j]? =some u→w.drew.cell? ⟨vb,0+j,none⟩=some u):=HVC.out
 clear hov HG HCG HVC
 generalize w.drew=w3 at hd2 HG3 HCG3 HVC3 HH0 ⊢
 refine wpList_copy_whole layDsk Tryz.underlying25 rfl (.tmp 73) (.tmp 76) rfl g ((i+1)*(layDsk).size) (A++M1) M2 R2 Bs 66 (by rw[List.append_assoc];exact HG3.out) HAM.out HMB.out H1B.out (n-i) (c-(i+1)) (n+1- i) (c-i) (n-i) ⟨g,i*(layDsk).size,none⟩ (Nat.min_eq_right (by omega)) HBL.out (fun j u hj=>by
  rw[Addr.add_mid]
  have:=HCG3.out (i*(layDsk).size+j) u (by rw[List.getElem?_append_right (by rw[HAL.out];omega),HAL.out,Nat.add_sub_cancel_left];exact hj)
  rw[Nat.zero_add]at this;exact this) (by simp[Act.eval];first|rfl| omega) (by simp[Act.eval];first|rfl| omega) ?_
 intro w4 hh4 hb4 ho4 hs4
 have HH4:Hid (w4.heap[g]? =some (.cells (A++(M1++(Bs++R2))).toArray 66 (0,0))):=by show _=_;rw[hh4,List.append_assoc]
 have HB4:=Lib.hid hb4
 have HVC4:Hid (∀j u,X[j]? =some u→w4.cell? ⟨vb,0+j,none⟩=some u):=fun j u hj=>by
  have:w4.cell? ⟨vb,0+j,none⟩=w3.cell? ⟨vb,0+j,none⟩:=World.cell?_of_block (w:=w3) (ho4 vb hne)
  rw[this];exact HVC3.out j u hj
 have HO4:=Lib.hid ho4
 clear hh4 hb4 ho4
 go_wp2_with(refine wpList_copy_whole layDsk Tryz.underlying25 rfl (.tmp 80) (.tmp 81) rfl g (i*(layDsk).size) A M1 (Bs++R2) X 66 HH4.out HAL.out HMA.out H1X.out (n+1- i) (c-i) 1 1 1 ⟨vb,0,none⟩ (Nat.min_eq_left (by omega)) (by rw[HXL.out,Nat.one_mul]) (fun j u hj=>by rw[Addr.add_mid];exact HVC4.out j u hj) rfl rfl ?_;intro w5 hh5 hb5 ho5 hs5;have HH5:=Lib.hid hh5;have HB5:=Lib.hid hb5;have HO5:=Lib.hid ho5;clear hh5 hb5 ho5)
 go_returns
 have hfin:w5.heap[g]? =some (.cells ((A++(X++Bs))++R2).toArray 66 (0,0)):=by rw[HH5.out];congr 3;simp
 have hres:(A++(X++Bs)).length=(n+1)*(layDsk).size:=by rw[←HRC.out,(layDsk).length,HRL.out]
 refine⟨some ⟨g,0,none⟩,c,by rw[HRL.out];rfl,?_,?_⟩
 ·rw[HRL.out,HRC.out]
  exact own_of_whole (D:=R2) hBg hc hcm hres hfin (by rw[List.length_append,hres];have:=HMC.out;omega)
 ·have q1:Below B w w5:=((hd2.mono hBg).trans (HB4.out B hBg)).trans (HB5.out B hBg)
  exact⟨q1,q1.os,q1.tape,q1.output,q1.size,fun k _ hk=>by
   have hkg:k≠ g:=fun e=>hk 0 none (by rw[e])
   rw[HO5.out k hkg,HO4.out k hkg,HH0.out k]⟩
def RetInsNODsk (B:Nat) (w:World) (a:Option Addr) (m:Nat) (xs:List Desk) (e:Ending) (w':World):Prop:=
 ∃a' c',e= .returned (.slice a' m c')∧w'.ownsRow B 66 (layDsk).size (.slice a' m c') m (xs.flatMap (layDsk).cells)∧Below B w w'∧OthersDsk a w w'
theorem insertODsk (xs:List Desk) (x:Desk) (i n c:Nat) (a:Option Addr) (vb:Nat) (te:TypeId) (B:Nat) (w:World) (hn:xs.length= n) (hi:i≤ n) (hcan:Can w B 66 (layDsk).size a n c (xs.flatMap (layDsk).cells))
 (hown:0< n→w.ownsRow B 66 (layDsk).size (.slice a n c) n (xs.flatMap (layDsk).cells)) (hv:w.heap[vb]? =some (.cells ((layDsk).cells x).toArray te (0,0))) (hne:∀b o s,a=some ⟨b,o,s⟩→vb≠ b) (hby:(n+1)*(layDsk).bytes≤140737488355328) (hB:B≤ w.heap.size):
 Calls Tryz.prog 121 #[.slice a n c,.int .i64 i,.slice (some ⟨vb,0,none⟩) 1 1] w (RetInsNODsk B w a (n+1) (xs.take i++x:: xs.drop i)):=by
 have hlen:(xs.take i++x:: xs.drop i).length=n+ 1:=by simp;omega
 have fin:∀e w',RetInsODsk B w a (xs.take i++x:: xs.drop i) e w'→RetInsNODsk B w a (n+1) (xs.take i++x:: xs.drop i) e w':=fun e w' ⟨a',c',h1,h2,h3⟩=>by
  rw[hlen]at h1 h2
  exact⟨a',c',h1,h2,h3⟩
 refine Calls.mono ?_ fin
 clear fin
 by_cases h:i= n
 ·subst h
  have:=insertEndODsk xs x i c a vb te B w hn hcan hv hby hB
  rw[List.take_of_length_le (by omega),List.drop_of_length_le (by omega)]
  exact this
 ·have ho:=hown (by omega)
  obtain⟨g,rfl,hBg,hcm⟩:=own_head ho (by intro h0;have:=congrArg List.length h0;rw[(layDsk).length,List.length_nil,Nat.mul_eq_zero]at this;have:=(layDsk).pos;omega)
  by_cases hc:c< n+1
  ·exact insertGrowODsk xs x i n c g vb te B w hn (by omega) hc ho hv hby hB
  ·exact insertShiftODsk xs x i n c g vb te B w hn (by omega) (by omega) ho hv (hne g 0 none rfl) hby
set_option maxHeartbeats 8000000 in
theorem way_put (w0:World):Way 63 #[] putC w0:=by
 intro s q c p gs gc w HG HST HC hne hok hgood hlen _
 obtain⟨hsm1,hsm2,hsm3,hsm4⟩:=ok_small hok
 have hq:=(stateOk_parts hok).2.2.2.1
 have hfit:=leasOk_fits (stOk_parts hq).1 (stOk_parts hq).2.1
 show Calls Tryz.prog 63 #[.pointer (some ⟨gs,0,none⟩),.pointer (some ⟨gc,0,none⟩)] w (WayPost w gs (putC s c))
 have HIT:=Lib.hid (inI_wf hgood.2.2.2.1)
 have HFIT:=Lib.hid hfit
 obtain⟨t1,t2,t3,⟨a1,n1,c1⟩,⟨a2,n2,c2⟩,⟨a3,n3,c3⟩,⟨a4,n4,c4⟩⟩:=q
 have HG1:=Lib.hid (HG.next ((Below.refl w.heap.size w).alloc (Nat.le_refl _) (.cells #[.int .i64 0,.int .i64 0,.int .i64 0,.int .i64 0,.int .i64 0] 40)))
 have HC1:=Lib.hid (HC.next ((Below.refl w.heap.size w).alloc (Nat.le_refl _) (.cells #[.int .i64 0,.int .i64 0,.int .i64 0,.int .i64 0,.int .i64 0] 40)))
 have HS1:=Lib.hid (HST.below ((Below.refl w.heap.size w).alloc (Nat.le_refl _) (.cells #[.int .i64 0,.int .i64 0,.int .i64 0,.int .i64 0,.int .i64 0] 40)))
 have HA1:=Lib.hid (ans_new w)
 have HO1:=Lib.hid (Only.of (g:=gs) ((Below.refl w.heap.size w).alloc (Nat.le_refl _) (.cells #[.int .i64 0,.int .i64 0,.int .i64 0,.int .i64 0,.int .i64 0] 40)))
 have hgs:=HG.lt
 have hgc:=HC.box.lt
 have HQ:Hid (putC s c=({s with tens:=(putS s.tens c.tenant c.rate c.burst (outL s.leas c.tenant)).1},(putS s.tens c.tenant c.rate c.burst (outL s.leas c.tenant)).2)):=rfl
 generalize putC s c=res at HQ ⊢
 clear HG HC HST hok hq hfit hgood
 go_enter Tryz.func63,Tryz.ntmps63
 go_wp2
 obtain⟨w1,hw1⟩:∃x,x=w.alloc (.cells #[.int .i64 0,.int .i64 0,.int .i64 0,.int .i64 0,.int .i64 0] 40):=⟨_,rfl⟩
 rw[←hw1]at HG1 HC1 HS1 HA1 HO1 ⊢
 have hz1:w.heap.size< w1.heap.size:=by rw[hw1];simp
 clear hw1
 refine wrq (fun l w'=>(w'.cell? ⟨gc,3,none⟩=some (.int .i64 c.tenant)∧w'.cell? ⟨gc,4,none⟩=some (.int .i64 c.rate)∧w'.cell? ⟨gc,5,none⟩=some (.int .i64 c.burst))∧Till 31 l (w'.cell? ⟨gs,0,none⟩=some (.int .i64 t1)∧w'.cell? ⟨gs,1,none⟩=some (.int .i64 t2)∧w'.cell? ⟨gs,2,none⟩=some (.int .i64 t3)∧w'.cell? ⟨gs,3,none⟩=some (.slice a1 n1 c1)∧w'.cell? ⟨gs,4,none⟩=some (.slice a2 n2 c2)∧w'.cell? ⟨gs,5,none⟩=some (.slice a3 n3 c3)∧w'.cell? ⟨gs,6,none⟩=some (.slice a4 n4 c4))) ?_
 refine toS ⟨⟨HC1.out.box.box.cell (j:=3) rfl,HC1.out.box.box.cell (j:=4) rfl,HC1.out.box.box.cell (j:=5) rfl⟩,fun _=>⟨HG1.out.box.cell (j:=0) rfl,HG1.out.box.cell (j:=1) rfl,HG1.out.box.cell (j:=2) rfl,HG1.out.box.cell (j:=3) rfl,HG1.out.box.cell (j:=4) rfl,HG1.out.box.cell (j:=5) rfl,HG1.out.box.cell (j:=6) rfl⟩⟩ ?_
 refine ttq [] 0 ?_
 refine ttq [] 1 ?_
 refine ttq [] 2 ?_
 refine ttq [] 3 ?_
 refine ttq [31] 4 ?_
 refine ttq [] 5 ?_
 refine ttq [] 6 ?_
 refine ttq [] 7 ?_
 refine ttq [31] 8 ?_
 refine ttq [] 9 ?_
 refine ttq [] 10 ?_
 refine ttq [] 11 ?_
 refine ttq [31] 12 ?_
 refine ttq [] 13 ?_
 refine ttq [] 14 ?_
 refine ttq [] 15 ?_
 refine ttq [31] 16 ?_
 refine ttq [] 17 ?_
 refine ttq [] 18 ?_
 refine ttq [31] 19 ?_
 refine ttq [] 20 ?_
 refine ttq [] 21 ?_
 refine ttq [] 22 ?_
 refine ttq [31] 23 ?_
 refine soq 24 (fun K hK=> ?_)
 go_simp
 go_at_call 41
 with_reducible refine(out_any s _ 0 c.tenant w1.drew (HS1.out.below ((Below.refl _ _).drew)) HFIT.out (by omega) HIT.out).mono ?_
 rintro e w2 ⟨rfl,hbz⟩
 have hb2:Below w1.heap.size w1 w2:=⟨hbz.os,hbz.tape,hbz.output,hbz.size,hbz.block⟩
 clear hbz
 have HG2:=Lib.hid (HG1.out.next hb2)
 have HC2:=Lib.hid (HC1.out.next hb2)
 have HA2:=Lib.hid (HA1.out.next hb2)
 have HS2:=Lib.hid (HS1.out.below hb2)
 have HO2:=Lib.hid (HO1.out.next hb2)
 refine hK.out _ _ ⟨⟨HC2.out.box.box.cell (j:=3) rfl,HC2.out.box.box.cell (j:=4) rfl,HC2.out.box.box.cell (j:=5) rfl⟩,fun _=>⟨HG2.out.box.cell (j:=0) rfl,HG2.out.box.cell (j:=1) rfl,HG2.out.box.cell (j:=2) rfl,HG2.out.box.cell (j:=3) rfl,HG2.out.box.cell (j:=4) rfl,HG2.out.box.cell (j:=5) rfl,HG2.out.box.cell (j:=6) rfl⟩⟩ ?_
 clear hK K
 refine soq 25 (fun K hK=> ?_)
 go_simp
 go_at_call 64
 with_reducible refine(pput_any s.tens a1 n1 c1 c.tenant c.rate c.burst (outL s.leas c.tenant) w2 HS2.out.ten.len (by omega) HS2.out.ten.nil HS2.out.ten.le HS2.out.trow).mono ?_
 rintro e w3 ⟨x1,y1,rfl,hle,hnil,hnear,hrow,hb3⟩
 have K3:=Lib.hid (And.intro hle (And.intro hnil hrow))
 clear hle hnil hnear hrow
 have HG3:=Lib.hid (HG2.out.next hb3)
 have HC3:=Lib.hid (HC2.out.next hb3)
 have HA3:=Lib.hid (HA2.out.next hb3)
 have HS3:=Lib.hid (HS2.out.below hb3)
 have HO3:=Lib.hid (HO2.out.next hb3)
 have hl3:=HG3.out.lt
 have hz3:w.heap.size< w3.heap.size:=by have:=HO3.out.size;have:=HA3.out.lt;omega
 generalize putS s.tens c.tenant c.rate c.burst (outL s.leas c.tenant)=pr at K3 HQ ⊢
 obtain⟨prt,⟨ae,ar,ab,al,az⟩⟩:=pr
 refine hK.out _ _ ⟨⟨HC3.out.box.box.cell (j:=3) rfl,HC3.out.box.box.cell (j:=4) rfl,HC3.out.box.box.cell (j:=5) rfl⟩,fun _=>⟨HG3.out.box.cell (j:=0) rfl,HG3.out.box.cell (j:=1) rfl,HG3.out.box.cell (j:=2) rfl,HG3.out.box.cell (j:=3) rfl,HG3.out.box.cell (j:=4) rfl,HG3.out.box.cell (j:=5) rfl,HG3.out.box.cell (j:=6) rfl⟩⟩ ?_
 clear hK K
 refine ttq [] 26 ?_
 refine ttq [] 27 ?_
 refine ttq [] 28 ?_
 refine ttq [] 29 ?_
 refine ttq [] 30 ?_
 refine soq 31 (fun K hK=> ?_)
 rw[if_pos (by rfl)]
 refine op_field_bex (.tmp 35) (.tmp 32) rfl size1_slice.2.1 gs 3 _ (.slice x1 prt.length y1) rfl rfl rfl rfl HG3.out (show 3<7 by decide) ?_
 intro w4 hx4 hw4
 have HG4:Hid (Bex w4 gs (Raw.cells ⟨t1,t2,t3,⟨x1,prt.length,y1⟩,⟨a2,n2,c2⟩,⟨a3,n3,c3⟩,⟨a4,n4,c4⟩⟩)):=hx4
 have HS4:Hid (StAt w4 0 ⟨t1,t2,t3,⟨x1,prt.length,y1⟩,⟨a2,n2,c2⟩,⟨a3,n3,c3⟩,⟨a4,n4,c4⟩⟩ {s with tens:=prt}):=put_tens HS3.out HG3.out hw4 K3.out.1 K3.out.2.1 K3.out.2.2
 have HC4:=Lib.hid (HC3.out.box.wrote hw4 (fun e=>hne e.symm))
 have HA4:=Lib.hid (HA3.out.wrote hw4 (by omega))
 have HO4:=Lib.hid (HO3.out.wrote hw4)
 clear hx4 hw4
 refine hK.out _ _ ⟨⟨HC4.out.box.cell (j:=3) rfl,HC4.out.box.cell (j:=4) rfl,HC4.out.box.cell (j:=5) rfl⟩,fun h=>absurd h (by decide)⟩ ?_
 clear hK K
 refine soq 32 (fun K hK=> ?_)
 rw[if_pos (by rfl)]
 refine op_store_bex layAns (.tmp 4) (.tmp 33) rfl w.heap.size ⟨ae,ar,ab,al,az⟩ _ rfl rfl HA4.out rfl ?_
 intro w5 hx5 hw5
 have HA5:=Lib.hid hx5
 have HG5:=Lib.hid (HG4.out.wrote hw5 (by omega))
 have HC5:=Lib.hid (HC4.out.wrote hw5 (by omega))
 have HS5:=Lib.hid (HS4.out.wrote HA4.out (misfits_ans _) hw5)
 have HO5:=Lib.hid (HO4.out.wroteNew hw5 (Nat.le_refl _))
 clear hx5 hw5
 refine hK.out _ _ ⟨⟨HC5.out.box.cell (j:=3) rfl,HC5.out.box.cell (j:=4) rfl,HC5.out.box.cell (j:=5) rfl⟩,fun h=>absurd h (by decide)⟩ ?_
 clear hK K
 refine sdq ?_
 go_wp2_with(first|((with_reducible refine at_load 40 (.tmp 4) ?_);refine wpList_load_as layAns rfl (.tmp 4) rfl w.heap.size 0 rfl ⟨ae,ar,ab,al,az⟩ (.agg #[.int .i64 ae,.int .i64 ar,.int .i64 ab,.int .i64 al,.int .i64 az]) rfl HA5.out.box.range ?_)|((with_reducible refine at_store 40 (.tmp 4) (.tmp 36) ?_);refine wpList_store_bex layAns rfl (.tmp 4) (.tmp 36) rfl w.heap.size ⟨ae,ar,ab,al,az⟩ _ rfl rfl HA5.out rfl ?_;intro w6 hx6 hw6;have HA6:=Lib.hid hx6;have HW6:=Lib.hid hw6;clear hx6 hw6))
 obtain⟨j0,j1,j2,j3,j4⟩:=ans_cells HA6.out
 refine bodyPost_ret (v:=Ans.agg ⟨ae,ar,ab,al,az⟩) (by simp[results,Tryz.results63,go_sem,j0,j1,j2,j3,j4]) rfl ?_
 rw[HQ.out]
 exact⟨rfl,_,HG5.out.wrote HW6.out (by omega),HS5.out.wrote HA5.out (misfits_ans _) HW6.out,HO5.out.wroteNew HW6.out (Nat.le_refl _)⟩
theorem teq_run (t u:Tenant) (w:World):(Op.equalIn 10000 75 t.agg u.agg).run Tryz.prog w= .ok (decide (t=u)) w:=by
 obtain⟨t0,t1,t2,t3,t4⟩:=t
 obtain⟨u0,u1,u2,u3,u4⟩:=u
 have hp:Tryz.prog.stoodInHeld 75=false:= by kernel_rfl
 have hi:=fun (d:Nat) (a b:Int) (w:World)=>run_equalIn_int (P:=Tryz.prog) w d 3 .i64 .i64 a b Tryz.underlying3
 have hb:=fun (d:Nat) (a b:Bool) (w:World)=>run_equalIn_bool' (P:=Tryz.prog) w d 4 a b Tryz.underlying4
 simp[go_sem,hp,hi,hb]
 by_cases e0:t0= u0<;>by_cases e1:t1= u1<;>by_cases e2:t2= u2<;>by_cases e3:t3= u3<;>by_cases e4:t4= u4<;>simp [e0,e1,e2,e3,e4]
theorem tneq_run (t u:Tenant) (w:World):(binOp .neq 75 t.agg u.agg).run Tryz.prog w= .ok (.bool (!decide (t=u))) w:=by
 rw[run_neq_struct,teq_run];rfl
end Go.Proofs.YtfdmhpohfjbpfaaGreat
