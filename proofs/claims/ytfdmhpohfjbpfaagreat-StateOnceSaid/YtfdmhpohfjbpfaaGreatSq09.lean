import Derived.Test.YtfdmhpohfjbpfaaGreatSq08
set_option linter.unusedVariables false
set_option linter.unusedSimpArgs false
namespace Go.Proofs.YtfdmhpohfjbpfaaGreat
def sumS (s:St) (id:Int):Int:= buck s.tens id+1000* outL s.leas id
end Go.Proofs.YtfdmhpohfjbpfaaGreat
namespace Go.Proofs.YtfdmhpohfjbpfaaGreat
open Go.ChangeShapes Go.WideShapes Go.ChangeAt Go.RowKit
set_option maxRecDepth 100000
def sesGood (s:Session):Bool:= decide (s.client≤16)&&decide (1≤s.number)
def sessOk (l:List Session):Bool:= chainOk Session.client sesGood 0 l
theorem sessOk_next {l:List Session} {k:Nat} (h:k< l.length) (hk:sessOk (l.take k)=true) (h1:lastKey Session.client 0 (l.take k)<l[k].client) (h2:l[k].client≤16) (h3:1≤ l[k].number):sessOk (l.take (k+1))=true:= by
 unfold sessOk at*
 rw[chainOk_take h,hk]
 simp[sesGood,h1,h2,h3]
theorem sessOk_bad {l:List Session} {k:Nat} (h:k< l.length) (h1:¬(lastKey Session.client 0 (l.take k)<l[k].client∧l[k].client≤16∧ 1≤l[k].number)):sessOk l=false:= by
 refine chainOk_bad h ?_
 unfold sesGood
 by_cases a:lastKey Session.client 0 (l.take k)<l[k].client<;>by_cases b:l[k].client≤16<;>by_cases c:1≤ l[k].number<;>simp [a,b,c]
 exact h1 ⟨a,b,c⟩
set_option maxHeartbeats 1000000 in
theorem check_ses (l:List Session) (a:Option Addr) (n c:Nat) (w:World) (hn:l.length= n) (hl:n≤ maxLen) (hr:LRow laySes w a l):
 Calls Tryz.prog 42 #[.slice a n c] w fun e w'=>e= .returned (.bool (sessOk l))∧Below w.heap.size w w':=by
 subst hn
 have hl2:=lt_maxLen hl
 have HB:=Lib.hid (fun k (h:k< l.length)=>sessOk_bad h)
 have HT:Hid (sessOk (l.take l.length)=true→ sessOk l=true):=fun h=>by rw[List.take_length]at h;exact h
 have H0:Hid (sessOk (l.take 0)=true):=rfl
 have HN:=Lib.hid (fun k (h:k< l.length)=>sessOk_next h)
 have HL:=Lib.hid (fun k (h:k< l.length)=>lastKey_take (key:=Session.client) (a:=0) h)
 generalize hres:sessOk l=res at HB HT ⊢
 clear hres
 go_enter Tryz.func42,Tryz.ntmps42
 go_wp2
 go_loopw [3,8] (fun la i wr=>∃k: Nat,k≤l.length∧ i= .int .i64 k∧la= .int .i64 (lastKey Session.client 0 (l.take k))∧Hid (sessOk (l.take k)=true)∧Below w.heap.size w wr) (fun _ i _=>l.length- (intOf i).toNat)
 case atStart=>exact ⟨0,by omega,rfl,rfl,H0,Below.refl _ _⟩
 case round=>
  obtain⟨k,hk,rfl,rfl,hok,hb⟩:=hrel
  by_cases hlt:k< l.length
  ·obtain⟨b,o,rfl,hcs⟩:=atSes hr hlt
   have hx:=hcs _ hb
   have HB1:=Lib.hid (HB.out k hlt)
   have HN1:=Lib.hid (HN.out k hlt hok.out)
   have HL1:=Lib.hid (HL.out k hlt)
   generalize l[k]=x at hx HB1 HN1 HL1
   generalize lastKey Session.client 0 (l.take k)=la at HB1 HN1 ⊢
   clear hcs
   by_cases hgo:la< x.client∧x.client≤ 16∧1≤ x.number
   ·obtain⟨h1,h2,h3⟩:=hgo
    have HN2:=Lib.hid (HN1.out h1 h2 h3)
    go_wp2
    go_roundw
    case rel=>exact ⟨k+1,by omega,by go_num,by rw[HL1.out],HN2.out,belo⟩
    case measure=>simp [intOf];omega
   ·have HG:=Lib.hid hgo
    have HO:=Lib.hid (HB1.out hgo)
    clear hgo
    go_wp2
    all_goals first
     |(go_returns;exact⟨ret_bool HO.out.symm,belo⟩)
     |(exfalso;have:=HG.out;omega)
  ·obtain rfl:k= l.length:=by omega
   have HO:=Lib.hid (HT.out hok.out)
   go_wp2
   go_returns
   exact⟨ret_bool HO.out.symm,hb⟩
set_option maxHeartbeats 2000000 in
theorem refcheck_ses (l:List Session) (a:Option Addr) (n c:Nat) (w:World) (hn:l.length= n) (hl:n≤ maxLen) (hr:LRow laySes w a l):
 Calls Tryz.prog 27 #[.slice a n c] w fun e w'=>e= .returned (.bool (sessOk l))∧Below w.heap.size w w':=by
 subst hn
 have hl2:=lt_maxLen hl
 have HB:=Lib.hid (fun k (h:k< l.length)=>sessOk_bad h)
 have HT:Hid (sessOk (l.take l.length)=true→ sessOk l=true):=fun h=>by rw[List.take_length]at h;exact h
 have H0:Hid (sessOk (l.take 0)=true):=rfl
 have HN:=Lib.hid (fun k (h:k< l.length)=>sessOk_next h)
 have HL:=Lib.hid (fun k (h:k< l.length)=>lastKey_take (key:=Session.client) (a:=0) h)
 have HGE:Hid (∀k,sessOk (l.take k)=true→ 0≤lastKey Session.client 0 (l.take k)):=fun k h=>lastKey_ge h
 generalize hres:sessOk l=res at HB HT ⊢
 clear hres
 go_enter Tryz.func27,Tryz.ntmps27
 go_wp2
 go_loopw [3] (fun i wr=>∃k: Nat,k≤l.length∧ i= .int .i64 k∧Hid (sessOk (l.take k)=true)∧Below w.heap.size w wr) (fun i _=>l.length- (intOf i).toNat)
 case atStart=>exact ⟨0,by omega,rfl,H0,Below.refl _ _⟩
 case round=>
  obtain⟨k,hk,rfl,hok,hb⟩:=hrel
  by_cases hlt:k< l.length
  ·obtain⟨b,o,rfl,hcs⟩:=atSes hr hlt
   obtain⟨hx0,hx1,_⟩:=hcs _ hb
   have HB1:=Lib.hid (HB.out k hlt)
   have HN1:=Lib.hid (HN.out k hlt hok.out)
   have hge:=HGE.out k hok.out
   cases k with
   |zero=>
    clear hcs
    have hla:lastKey Session.client 0 (l.take 0)=0:= rfl
    rw[hla]at HB1 HN1
    generalize l[0]=x at hx0 hx1 HB1 HN1
    simp only[Nat.zero_mul,Nat.add_zero]at hx0 hx1
    clear hla hge
    by_cases h1:x.client< 1
    ·have HO:=Lib.hid (HB1.out (by omega))
     have g1:decide (x.client<1)=true:= decide_eq_true h1
     go_wp2
     go_quiet (fail)
     go_wp2
     go_returns
     exact⟨ret_bool HO.out.symm,below_drewN hb _⟩
    have g1:decide (x.client<1)=false:= decide_eq_false h1
    by_cases h2:16< x.client
    ·have HO:=Lib.hid (HB1.out (by omega))
     have g2:decide (16<x.client)=true:= decide_eq_true h2
     go_wp2
     go_quiet (fail)
     go_wp2
     go_returns
     exact⟨ret_bool HO.out.symm,below_drewN hb _⟩
    have g2:decide (16<x.client)=false:= decide_eq_false h2
    by_cases h3:x.number< 1
    ·have HO:=Lib.hid (HB1.out (by omega))
     have g3:decide (x.number<1)=true:= decide_eq_true h3
     go_wp2
     go_quiet (fail)
     go_wp2
     go_returns
     exact⟨ret_bool HO.out.symm,below_drewN hb _⟩
    have g3:decide (x.number<1)=false:= decide_eq_false h3
    have HN2:=Lib.hid (HN1.out (by omega) (by omega) (by omega))
    go_wp2
    go_quiet (fail)
    go_wp2
    go_roundw
    case rel=>exact ⟨1,by omega,rfl,HN2.out,below_drewN hb _⟩
    case measure=>simp [intOf];omega
   |succ j=>
    have hjl:j< l.length:=by omega
    obtain⟨b2,o2,e2,hcs2⟩:=atSes hr hjl
    simp only[Option.some.injEq,Addr.mk.injEq,and_true]at e2
    obtain⟨rfl,rfl⟩:=e2
    obtain⟨hp0,_⟩:=hcs2 _ hb
    have hla:=HL.out j hjl
    rw[hla]at HB1 HN1 hge
    generalize l[j+1]=x at hx0 hx1 HB1 HN1
    generalize l[j]=p at hp0 HB1 HN1 hge
    clear hcs hcs2 hla
    have hw1:IntKind.i64.wrap ((j:Int)+1- 1)=(j:Int):=by rw[IntKind.wrap_i64];omega
    have g0:decide (0<(j:Int)+1)=true:= decide_eq_true (by omega)
    by_cases h1:x.client< 1
    ·have HO:=Lib.hid (HB1.out (by omega))
     have g1:decide (x.client<1)=true:= decide_eq_true h1
     go_wp2
     go_quiet (fail)
     go_wp2
     go_returns
     exact⟨ret_bool HO.out.symm,below_drewN hb _⟩
    have g1:decide (x.client<1)=false:= decide_eq_false h1
    by_cases h2:16< x.client
    ·have HO:=Lib.hid (HB1.out (by omega))
     have g2:decide (16<x.client)=true:= decide_eq_true h2
     go_wp2
     go_quiet (fail)
     go_wp2
     go_returns
     exact⟨ret_bool HO.out.symm,below_drewN hb _⟩
    have g2:decide (16<x.client)=false:= decide_eq_false h2
    by_cases h3:x.number< 1
    ·have HO:=Lib.hid (HB1.out (by omega))
     have g3:decide (x.number<1)=true:= decide_eq_true h3
     go_wp2
     go_quiet (fail)
     go_wp2
     go_returns
     exact⟨ret_bool HO.out.symm,below_drewN hb _⟩
    have g3:decide (x.number<1)=false:= decide_eq_false h3
    by_cases h4:x.client≤ p.client
    ·have HO:=Lib.hid (HB1.out (by omega))
     have g4:decide (x.client≤p.client)=true:= decide_eq_true h4
     go_wp2
     go_quiet (fail)
     go_wp2
     go_returns
     exact⟨ret_bool HO.out.symm,below_drewN hb _⟩
    have g4:decide (x.client≤p.client)=false:= decide_eq_false h4
    have HN2:=Lib.hid (HN1.out (by omega) (by omega) (by omega))
    go_wp2
    go_quiet (fail)
    go_wp2
    go_roundw
    case rel=>exact ⟨j+1+ 1,by omega,by go_num,HN2.out,below_drewN hb _⟩
    case measure=>simp [intOf];omega
  ·obtain rfl:k= l.length:=by omega
   have HO:=Lib.hid (HT.out hok.out)
   go_wp2
   go_returns
   exact⟨ret_bool HO.out.symm,hb⟩
end Go.Proofs.YtfdmhpohfjbpfaaGreat
namespace Go.Proofs.YtfdmhpohfjbpfaaGreat
open Go.ChangeShapes Go.WideShapes Go.ChangeAt Go.RowKit Go.Maps
set_option maxRecDepth 100000
def keyCl:KeyKind Tryz.prog 199 Int where
 keyed:=Keyed.of_law (deep_law_laid (by kernel_rfl) (m:=20) (by omega) (of_decide_eq_true (by kernel_rfl)) (by kernel_rfl) (by kernel_rfl))
 enc n:= .agg #[.int .i64 n]
 kl n:= .string (keyBytes [.int .i64 n])
 good n:=(Lit.int .i64 n).wf=true
 key n h:=keyOf_struct1 Tryz.underlying199 rfl rfl rfl (by kernel_rfl) (by kernel_rfl) (by kernel_rfl) Tryz.underlying3 ⟨Tryz.prog.types.size-1,by kernel_rfl⟩ h
 inj _ _ h:=by simpa using h
def PlOk (l:List Session) (k:Nat) (f:Int→ Option Int):Prop:=
 ∀id,(f id=none∧ ∀j (h:j< l.length),j<k→ l[j].client≠id)∨∃j,∃h: j<l.length,j<k∧ l[j].client=id∧ f id=some (j:Int)
theorem PlOk.zero (l:List Session):PlOk l 0 (fun _=>none):=fun id=> .inl ⟨rfl,fun j _ hj=>by omega⟩
theorem PlOk.next {l:List Session} {k:Nat} {f:Int→ Option Int} (h:PlOk l k f) (hk:k< l.length):PlOk l (k+1) (upd f l[k].client (k:Int)):=fun id=>by
 unfold upd
 by_cases e:id= l[k].client
 ·rw[if_pos e];exact .inr ⟨k,hk,by omega,e.symm,rfl⟩
 ·rw[if_neg e]
  rcases h id with⟨h1,h2⟩|⟨j,hj,h1,h2,h3⟩
  ·refine .inl ⟨h1,fun j hj hjk=> ?_⟩
   by_cases e2:j= k
   ·subst e2;exact fun h=>e h.symm
   ·exact h2 j hj (by omega)
  ·exact .inr ⟨j,hj,by omega,h2,h3⟩
theorem PlOk.find {l:List Session} {f:Int→ Option Int} (h:PlOk l l.length f) (hs:sessOk l=true) (id:Int):
 (f id=none∧ findK Session.client l id=none)∨∃j,∃hj: j<l.length,f id=some (j:Int)∧findK Session.client l id=some l[j]:=by
 rcases h id with⟨h1,h2⟩|⟨j,hj,h1,h2,h3⟩
 ·exact .inl ⟨h1,findK_none fun j hj=>h2 j hj hj⟩
 ·exact .inr ⟨j,hj,h3,findK_at (chainOk_iff.1 hs).2 hj h2⟩
theorem wf_small {n:Int} (h1: -1000000000000≤ n) (h2:n≤ 1000000000000):(Lit.int .i64 n).wf=true:= by
 exact Go.WalkArith.wf_i64 ⟨by omega,by omega⟩
def RetPl (l:List Session) (w:World) (e:Ending) (w':World):Prop:= ∃b f,e= .returned (.map (some b))∧w.heap.size≤ b∧PlOk l l.length f∧MapI keyCl 3 w' b l.length f∧Below w.heap.size w w'
set_option maxHeartbeats 2000000 in
theorem places_any (l:List Session) (a:Option Addr) (n c:Nat) (w:World) (hn:l.length= n) (hl:n≤ 1000000) (hr:LRow laySes w a l) (hwf:∀s∈ l,(Lit.int .i64 s.client).wf=true):
 Calls Tryz.prog 174 #[.slice a n c] w (RetPl l w):=by
 subst hn
 have hmax:l.length< maxLen:=by unfold maxLen;omega
 have hmm:= @run_makeMap Tryz.prog
 have HWF:=Lib.hid hwf
 clear hwf
 go_enter Tryz.func174,Tryz.ntmps174
 go_wp2
 go_loopw [9] (fun i wr=>∃k: Nat,∃f,k≤l.length∧ i= .int .i64 k∧Hid (PlOk l k f)∧Hid (MapI keyCl 3 wr w.heap.size k f)∧Below w.heap.size w wr) (fun i _=>l.length- (intOf i).toNat)
 case atStart=>exact ⟨0,fun _=>none,by omega,rfl,PlOk.zero l,MapI.made w,(Below.refl _ _).alloc (Nat.le_refl _) _⟩
 case round=>
  obtain⟨k,f,hk,rfl,hp,hm,hb⟩:=hrel
  by_cases hlt:k< l.length
  ·obtain⟨b,o,rfl,hcs⟩:=atSes hr hlt
   have hx:=hcs _ hb
   have HP1:=Lib.hid (hp.out.next hlt)
   have HW:=Lib.hid (HWF.out l[k] (List.getElem_mem hlt))
   generalize l[k]=x at hx HP1 HW
   have hmb:=hm.out.lt
   clear hcs
   go_wp2_with(refine wpList_putI keyCl Tryz.underlying196 Tryz.underlying3 rfl (.tmp 14) (.tmp 17) (.tmp 18) rfl w.heap.size k f rfl (hm.out.alloc _) (by omega) x.client HW.out rfl k rfl (wf_small (by omega) (by omega)) ?_;intro w3 hm3 hg3)
   exact⟨⟨k+1,_,by omega,by go_num,HP1.out,hm3,(hb.alloc hb.size _).grown hg3 (by have:=hb.size;simp;omega) (fun _ h=>by cases h;exact Nat.le_refl _)⟩,by simp[intOf];omega⟩
  ·obtain rfl:k= l.length:=by omega
   go_wp2
   go_returns
   exact⟨w.heap.size,f,rfl,Nat.le_refl _,hp.out,hm.out,hb⟩
def zeroS:Session:= ⟨0,0,Ans.err 0⟩
def findS (l:List Session) (id:Int):Session× Bool:=match findK Session.client l id with|some s=>(s,true)|none=> (zeroS,false)
def RetSF (w:World) (r:Session× Bool) (e:Ending) (w':World):Prop:= e= .returned (.tuple #[r.1.agg,.bool r.2])∧Below w.heap.size w w'
theorem sessOk_wf {l:List Session} (hs:sessOk l=true):∀s∈ l,1≤s.client∧ s.client≤16∧ 1≤s.number:= fun s h=>by
 have h1:=(chainOk_iff.1 hs).1 s h
 have h2:=h1.2
 unfold sesGood at h2
 simp only[Bool.and_eq_true,decide_eq_true_eq]at h2
 omega
theorem zero_int (w:World):(zeroValue 3).run Tryz.prog w= .ok (.int .i64 0) w:=by kernel_rfl
set_option maxHeartbeats 2000000 in
theorem find_ses (l:List Session) (a:Option Addr) (n c:Nat) (id:Int) (w:World) (hn:l.length= n) (hl:n≤ 1000000) (hr:LRow laySes w a l) (hs:sessOk l=true) (hid:(Lit.int .i64 id).wf=true):
 Calls Tryz.prog 158 #[.slice a n c,.int .i64 id] w (RetSF w (findS l id)):=by
 subst hn
 have HP:=Lib.hid (fun f (h:PlOk l l.length f)=>h.find hs id)
 have HWF:=Lib.hid (fun s h=>wf_small (n:=Session.client s) (by have:=sessOk_wf hs s h;omega) (by have:=sessOk_wf hs s h;omega))
 have HID:=Lib.hid hid
 have HR:Hid (findS l id=match findK Session.client l id with|some s=>(s,true)|none=> (zeroS,false)):=rfl
 generalize findS l id=res at HR ⊢
 clear hs hid
 by_cases h0:∃s,findK Session.client l id=some s
 ·obtain⟨s,h0⟩:=h0
  have HPS:Hid (∀f,PlOk l l.length f→∃j,∃hj: j<l.length,f id=some (j:Int)∧l[j]=s):=fun f hf=>by
   rcases HP.out f hf with⟨_,h2⟩|⟨j,hj,h1,h2⟩
   ·rw[h0]at h2;cases h2
   ·rw[h0]at h2;exact⟨j,hj,h1,by simpa using h2.symm⟩
  have H0:Hid (res=(s,true)):=by show _=_;rw[HR.out,h0]
  obtain⟨j0,hj0,_⟩:∃j,∃hj: j<l.length,l[j]=s:= List.mem_iff_getElem.1 (findK_mem h0).1
  obtain⟨b,o,rfl,_⟩:=atSes hr hj0
  clear h0 HP
  go_enter Tryz.func158,Tryz.ntmps158
  go_wp2_with(first|(go_at_call 174;((with_reducible refine(places_any l _ _ _ _ rfl hl (LRow.below hr belo) HWF.out).mono ?_);rintro e w2 ⟨mb,f,rfl,hmb,hf,hm,hb2⟩;have HF:=HPS.out f hf;have HM:=Lib.hid hm;have HTH:=Lib.hid (box_there hb2);have HRG:=Lib.hid (box_range (cs:=zeroS.cells) hb2);have hsz:=Below.boxed hb2;have hb2w:Below w.heap.size w w2:=belo;clear hf hm;obtain⟨j,hj,h1,hjs⟩:=HF;obtain⟨b2,o2,e2,hcs⟩:=LRow.range hr hj;simp only[Option.some.injEq,Addr.mk.injEq,and_true]at e2;obtain⟨rfl,rfl⟩:=e2;have hx:=hcs w2 belo;rw[hjs]at hx;have HX:=Lib.hid hx;clear hcs hx hjs))|(refine wpList_getOkI keyCl Tryz.underlying196 Tryz.underlying3 zero_int rfl (.tmp 9) (.tmp 11) rfl mb l.length f rfl HM.out id HID.out rfl ?_)|(refine wpList_load_lay laySes rfl (.tmp 18) rfl b (o+j* 7) rfl s HX.out ?_)|(refine wpList_store_there laySes rfl (.tmp 4) (.tmp 19) rfl w.heap.size 0 s rfl rfl HTH.out ?_;intro w4 hr4 ht4 hb4 hs4;have HR4:=Lib.hid hr4;have HT4:=Lib.hid ht4;have hb7:=hb4 w.heap.size (Nat.le_refl _);clear hr4 hb4 ht4)|(refine wpList_load_lay laySes rfl (.tmp 4) rfl w.heap.size 0 rfl s HR4.out ?_)|(refine wpList_store_there laySes rfl (.tmp 4) (.tmp 20) rfl w.heap.size 0 s rfl rfl HT4.out ?_;intro w5 hr5 _ hb5 hs5;have HR5:=Lib.hid hr5;have hb6:=hb5 w.heap.size (Nat.le_refl _);clear hr5 hb5))
  obtain⟨c0,c1,c2,c3,c4,c5,c6⟩:=cellsSes HR5.out
  simp only[Nat.zero_add]at c1 c2 c3 c4 c5 c6
  refine bodyPost_ret (v:= .tuple #[s.agg,.bool true]) (by simp[results,Tryz.results158,go_sem,c0,c1,c2,c3,c4,c5,c6]) rfl ?_
  exact⟨by rw[H0.out],(hb2w.trans hb7).trans hb6⟩
 ·have h1:findK Session.client l id=none:= by
   cases h:findK Session.client l id with
   |none=> rfl
   |some s=>exact absurd ⟨s,h⟩ h0
  have HPN:Hid (∀f,PlOk l l.length f→f id=none):=fun f hf=>by
   rcases HP.out f hf with⟨h2,_⟩|⟨j,hj,_,h2⟩
   ·exact h2
   ·rw[h1]at h2;cases h2
  have H0:Hid (res=(zeroS,false)):=by show _=_;rw[HR.out,h1]
  clear h0 h1 HP
  go_enter Tryz.func158,Tryz.ntmps158
  go_wp2_with(first|(go_at_call 174;((with_reducible refine(places_any l _ _ _ _ rfl hl (LRow.below hr belo) HWF.out).mono ?_);rintro e w2 ⟨mb,f,rfl,hmb,hf,hm,hb2⟩;have HF:=HPN.out f hf;have HM:=Lib.hid hm;have HTH:=Lib.hid (box_there hb2);have HRG:=Lib.hid (box_range (cs:=zeroS.cells) hb2);have hsz:=Below.boxed hb2;have hb2w:Below w.heap.size w w2:=belo;clear hf hm;have h1:=HF))|(refine wpList_getOkI keyCl Tryz.underlying196 Tryz.underlying3 zero_int rfl (.tmp 9) (.tmp 11) rfl mb l.length f rfl HM.out id HID.out rfl ?_)|(refine wpList_load_lay laySes rfl (.tmp 4) rfl w.heap.size 0 rfl zeroS HRG.out ?_)|(refine wpList_store_there laySes rfl (.tmp 4) (.tmp 20) rfl w.heap.size 0 zeroS rfl rfl HTH.out ?_;intro w5 hr5 _ hb5 hs5;have HR5:=Lib.hid hr5;have hb6:=hb5 w.heap.size (Nat.le_refl _);clear hr5 hb5))
  obtain⟨c0,c1,c2,c3,c4,c5,c6⟩:=cellsSes HR5.out
  simp only[Nat.zero_add]at c1 c2 c3 c4 c5 c6
  refine bodyPost_ret (v:= .tuple #[zeroS.agg,.bool false]) (by simp[results,Tryz.results158,go_sem,c0,c1,c2,c3,c4,c5,c6]) rfl ?_
  exact⟨by rw[H0.out],hb2w.trans hb6⟩
end Go.Proofs.YtfdmhpohfjbpfaaGreat
namespace Go.Proofs.YtfdmhpohfjbpfaaGreat
open Go.ChangeShapes Go.WideShapes Go.ChangeAt Go.RowKit
set_option maxRecDepth 100000
def mayS (l:List Session) (c n:Int):Bool:= sessOk l&&(decide (1≤c)&&(decide (c≤16)&&decide (1≤n)))
def lastS (l:List Session) (id:Int):Int:= if sessOk l=true then(findS l id).1.number else 0
def askS (l:List Session) (c n:Int):Ans× Bool×Int:=
 if mayS l c n=false then(Ans.err 0,false,2)else if n<(findS l c).1.number then(Ans.err 0,false,150)else if n=(findS l c).1.number then((findS l c).1.answer,false,0)else(Ans.err 0,true,0)
set_option maxHeartbeats 2000000 in
theorem may_ses (l:List Session) (a:Option Addr) (n c:Nat) (id num:Int) (w:World) (hn:l.length= n) (hl:n≤ maxLen) (hr:LRow laySes w a l):
 Calls Tryz.prog 157 #[.slice a n c,.int .i64 id,.int .i64 num] w fun e w'=>e= .returned (.bool (mayS l id num))∧Below w.heap.size w w':=by
 have HM:Hid (mayS l id num=(sessOk l&&(decide (1≤id)&&(decide (id≤16)&&decide (1≤num))))):=rfl
 generalize mayS l id num=res at HM ⊢
 cases hs:sessOk l<;>cases h1:decide (1≤id)<;>cases h2:decide (id≤16)
 all_goals
  have HS:=Lib.hid hs
  rw[hs,h1,h2]at HM
  clear hs
  go_enter Tryz.func157,Tryz.ntmps157
  go_wp2_with(go_at_call 42;((with_reducible refine(check_ses l _ _ _ _ hn hl hr).mono ?_);rw[HS.out];rintro e w2 ⟨rfl,hb⟩))
  go_returns
  exact⟨ret_bool (by rw[HM.out];simp),hb⟩
theorem last_ses (l:List Session) (a:Option Addr) (n c:Nat) (id:Int) (w:World) (hn:l.length= n) (hl:n≤ 1000000) (hr:LRow laySes w a l) (hid:(Lit.int .i64 id).wf=true):
 Calls Tryz.prog 159 #[.slice a n c,.int .i64 id] w fun e w'=>e= .returned (.int .i64 (lastS l id))∧Below w.heap.size w w':=by
 have HL:Hid (lastS l id=if sessOk l=true then(findS l id).1.number else 0):=rfl
 generalize lastS l id=res at HL ⊢
 have hm:=le_maxLen (Nat.le_trans hl (by decide):n≤ 1048576)
 cases hs:sessOk l with
 |false=>
  have HS:=Lib.hid hs
  rw[hs]at HL
  clear hs
  go_enter Tryz.func159,Tryz.ntmps159
  go_wp2_with(go_at_call 42;((with_reducible refine(check_ses l _ _ _ _ hn hm hr).mono ?_);rw[HS.out];rintro e w2 ⟨rfl,hb⟩))
  go_returns
  exact⟨ret_int (by rw[HL.out];rfl),hb⟩
 |true=>
  have HS:=Lib.hid hs
  rw[hs]at HL
  rcases hf:findS l id with⟨⟨sc,sn,se,sr,sb,sl,sz⟩,ok⟩
  rw[hf]at HL
  have HF:=Lib.hid hf
  have HID:=Lib.hid hid
  clear hs hf hid
  go_enter Tryz.func159,Tryz.ntmps159
  go_wp2_with(first|(go_at_call 42;((with_reducible refine(check_ses l _ _ _ _ hn hm hr).mono ?_);rw[HS.out];rintro e w2 ⟨rfl,hb⟩))|(go_at_call 158;((with_reducible refine(find_ses l _ _ _ _ _ hn hl (LRow.below hr belo) HS.out HID.out).mono ?_);rw[HF.out];rintro e w3 ⟨rfl,hb3⟩)))
  go_returns
  exact⟨ret_int (by rw[HL.out];rfl),belo⟩
def RetInsSes (B:Nat) (w:World) (xs:List Session) (e:Ending) (w':World):Prop:=
 ∃a' c',e= .returned (.slice a' xs.length c')∧w'.ownsRow B 92 (laySes).size (.slice a' xs.length c') xs.length (xs.flatMap (laySes).cells)∧Below B w w'
set_option maxHeartbeats 4000000 in
theorem insertEndSes (xs:List Session) (x:Session) (n c:Nat) (a:Option Addr) (vb:Nat) (te:TypeId) (B:Nat) (w:World) (hn:xs.length= n) (hcan:Can w B 92 (laySes).size a n c (xs.flatMap (laySes).cells))
 (hv:w.heap[vb]? =some (.cells ((laySes).cells x).toArray te (0,0))) (hby:(n+1)*(laySes).bytes≤140737488355328) (hB:B≤ w.heap.size):
 Calls Tryz.prog 176 #[.slice a n c,.int .i64 n,.slice (some ⟨vb,0,none⟩) 1 1] w (RetInsSes B w (xs++[x])):=by
 have hle:=hcan.le
 have hmx:=hcan.2.1
 have hsm:=lt_maxLen hmx
 have hbp:=(laySes).bpos
 have hcc:c≤ 9223372036854775807:=by
  rcases hcan.2.2 with⟨h,_⟩|h
  ·omega
  ·obtain⟨_,_,hv,_,h2,_⟩:=own_slice h
   simp only[Value.slice.injEq]at hv
   have:=lt_maxLen h2
   omega
 have hrv:Row w (some ⟨vb,0,none⟩) ((laySes).cells x):=by have:=Row.of_block hv;simpa using this
 have HC:=Lib.hid hcan
 have HV:=Lib.hid hrv
 have h1v:=(laySes).one x
 have H1:=Lib.hid h1v
 have HL:=Lib.hid ((laySes).len x)
 clear hcan hrv hv h1v
 go_enter Tryz.func176,Tryz.ntmps176
 go_wp2_with(at_builtin;refine wpList_can ((laySes).elem Tryz.underlying24) rfl (.tmp 23) (.tmp 24) rfl B a n c _ rfl HC.out (some ⟨vb,0,none⟩) 1 1 ((laySes).cells x) rfl (by rw[HL.out,Nat.one_mul]) HV.out H1.out hby hB ?_;intro a' c' w' hcan' _ hb' hown')
 all_goals
  go_returns
  subst hn
  refine⟨a',c',by rw[List.length_append];rfl,?_,hb'⟩
  have:=hown'.1 (by omega)
  rw[List.length_append,List.flatMap_append,List.flatMap_cons,List.flatMap_nil,List.append_nil]
  exact this
theorem overlapsSes_no (w:World) (vb g o m vc lb cb:Nat) (tA tB:TypeId) (cA cB:Array Value) (hne:vb≠ g) (hA:w.heap[vb]? =some (.cells cA tA (0,0))) (hB:w.heap[g]? =some (.cells cB tB (0,0))) (hk:cB.size≠ 0):
 (callFunc 179 #[.slice (some ⟨vb,0,none⟩) m vc,.slice (some ⟨g,o,none⟩) lb cb]).run Tryz.prog w= .ok (.value (.bool false)) w:=by
 obtain⟨i,z,h2,_,h3,_⟩:=(laySes).parts
 have hsz:∀w,(sizeOf 92).run Tryz.prog w= .ok (laySes).size w:=fun w=>by simp[sizeOf,typeInfo,h2,h3]
 rw[run_callFunc_extern Tryz.func179 (by kernel_rfl) (by kernel_rfl) (by kernel_rfl) (e:=Extern.SlicesOverlaps.overlaps #[24,24] #[4]) (by kernel_rfl),
  Lib.run_overlaps_apart w 24 4 92 Tryz.underlying24 (laySes).size hsz ⟨vb,0,none⟩ ⟨g,o,none⟩ m vc lb cb hne tA tB cA.size cB.size
   (by simp[World.shape?,hA]) (by simp[World.shape?,hB]) hk (by simp[World.frozen?,hA]) (by simp[World.frozen?,hA])]
 rfl
theorem midSes_cells (xs:List Session) (x:Session) (i:Nat):(xs.take i++x:: xs.drop i).flatMap (laySes).cells=(xs.take i).flatMap (laySes).cells++((laySes).cells x++(xs.drop i).flatMap (laySes).cells):=by
 rw[List.flatMap_append,List.flatMap_cons]
set_option maxHeartbeats 4000000 in
theorem insertGrowSes (xs:List Session) (x:Session) (i n c g:Nat) (vb:Nat) (te:TypeId) (B:Nat) (w:World) (hn:xs.length= n) (hi:i< n) (hc:c< n+1) (hown:w.ownsRow B 92 (laySes).size (.slice (some ⟨g,0,none⟩) n c) n (xs.flatMap (laySes).cells))
 (hv:w.heap[vb]? =some (.cells ((laySes).cells x).toArray te (0,0))) (hby:(n+1)*(laySes).bytes≤140737488355328) (hB:B≤ w.heap.size):
 Calls Tryz.prog 176 #[.slice (some ⟨g,0,none⟩) n c,.int .i64 i,.slice (some ⟨vb,0,none⟩) 1 1] w (RetInsSes B w (xs.take i++x:: xs.drop i)):=by
 obtain⟨hBg,hnc,hcm,hAl,D,hg,hCl⟩:=own_whole hown
 have hbp:=(laySes).bpos
 have hsp:=(laySes).pos
 have hn1:n+ 1≤140737488355328:= Nat.le_trans (Nat.le_mul_of_pos_right _ hbp) hby
 have hAB:xs.flatMap (laySes).cells=(xs.take i).flatMap (laySes).cells++(xs.drop i).flatMap (laySes).cells:=by rw[←List.flatMap_append,List.take_append_drop]
 have hal:((xs.take i).flatMap (laySes).cells).length=i* (laySes).size:=by rw[(laySes).length,List.length_take];congr 1;omega
 have hbl:((xs.drop i).flatMap (laySes).cells).length=(n-i)*(laySes).size:=by rw[(laySes).length,List.length_drop,hn]
 have hxl:=(laySes).len x
 have h1x:=(laySes).one x
 have h1b:=(laySes).ones (xs.drop i)
 have hrl:(xs.take i++x:: xs.drop i).length=n+ 1:=by simp;omega
 have hrc:=midSes_cells xs x i
 generalize hR:(xs.take i++x:: xs.drop i)=res at hrl hrc ⊢
 generalize hxa:(xs.take i).flatMap (laySes).cells=A at hAB hal hrc
 generalize hxb:(xs.drop i).flatMap (laySes).cells=Bs at hAB hbl h1b hrc
 generalize hxc:(laySes).cells x=X at hv hxl h1x hrc
 rw[hAB]at hg
 have hcellg:∀j u,(A++Bs)[j]? =some u→w.cell? ⟨g,0+j,none⟩=some u:=fun j u hj=>by
  have hlt:=(List.getElem?_eq_some_iff.1 hj).1
  simp only[World.cell?,hg,Nat.zero_add,Option.isSome_none,Bool.false_eq_true,if_false]
  rw[List.getElem?_toArray,List.getElem?_append_left hlt,hj]
 have hgl:g< w.heap.size:=(Array.getElem?_eq_some_iff.1 hg).1
 have hvl:vb< w.heap.size:=(Array.getElem?_eq_some_iff.1 hv).1
 have hvc:∀j u,X[j]? =some u→w.cell? ⟨vb,0+j,none⟩=some u:=fun j u hj=>by
  simp only[World.cell?,hv,Nat.zero_add,Option.isSome_none,Bool.false_eq_true,if_false]
  rw[List.getElem?_toArray,hj]
 obtain⟨w1,g1,c1,Z,hrun,hg1,hc1,hcm1,hh1,hl1,hb1,hs1⟩:=run_append_zeros laySes Tryz.underlying24 Tryz.underlying3 24 w g 0 i c (n+1- i) A hal (fun j u hj=>hcellg j u (by rw[List.getElem?_append_left (List.getElem?_eq_some_iff.1 hj).1];exact hj)) (by omega) (by omega) (by rw[show i+(n+1- i)=n+ 1 by omega];exact hby)
 have hkk:(n:Int)+1- (i:Int)=((n+1- i:Nat):Int):=by omega
 rw[←hkk,show i+(n+1- i)=n+ 1 by omega]at hrun
 rw[show i+(n+1- i)=n+ 1 by omega]at hc1
 have hZl:Z.length+ i*(laySes).size=c1* (laySes).size:=by rw[List.length_append,hal]at hl1;omega
 have hZ1:(n+1)*(laySes).size≤c1* (laySes).size:=Nat.mul_le_mul_right _ hc1
 have hni:(n+1)*(laySes).size=i* (laySes).size+(laySes).size+(n-i)*(laySes).size:=by rw[←Nat.succ_mul,←Nat.add_mul];congr 1;omega
 have hp1:A++ Z=A++ (Z.take (laySes).size++Z.drop (laySes).size):=by rw[List.take_append_drop]
 rw[hp1]at hh1
 have hp2:Z.drop (laySes).size=(Z.drop (laySes).size).take ((n-i)*(laySes).size)++(Z.drop (laySes).size).drop ((n-i)*(laySes).size):=by rw[List.take_append_drop]
 have hZa:(Z.take (laySes).size).length=X.length:= by rw[List.length_take,hxl];omega
 have hZb:((Z.drop (laySes).size).take ((n-i)*(laySes).size)).length=Bs.length:= by rw[List.length_take,List.length_drop,hbl];omega
 have hZc:((Z.drop (laySes).size).drop ((n-i)*(laySes).size)).length+(n+1)*(laySes).size=c1* (laySes).size:=by rw[List.length_drop,List.length_drop];omega
 rw[hp2]at hh1
 generalize Z.take (laySes).size=M1 at hh1 hZa
 generalize(Z.drop (laySes).size).take ((n-i)*(laySes).size)=M2 at hh1 hZb
 generalize(Z.drop (laySes).size).drop ((n-i)*(laySes).size)=R2 at hh1 hZc
 have hAX:(A++X).length=(i+1)*(laySes).size:=by rw[List.length_append,hal,hxl,Nat.succ_mul]
 have hcm1':=lt_maxLen hcm1
 have hcm':=lt_maxLen hcm
 have RUN:=Lib.hid hrun
 have HH1:=Lib.hid hh1
 have HVC:=Lib.hid (fun j u hj=>((hb1.cell (p:=⟨vb,0+j,none⟩) hvl).trans (hvc j u hj)))
 have HCG:=Lib.hid (fun j u hj=>((hb1.cell (p:=⟨g,0+j,none⟩) hgl).trans (hcellg j u hj)))
 have hgg:g≠ g1:=by omega
 have HMA:=Lib.hid hZa
 have HMB:=Lib.hid hZb
 have H1X:=Lib.hid h1x
 have H1B:=Lib.hid h1b
 have HAL:=Lib.hid hal
 have HXL:=Lib.hid hxl
 have HBL:=Lib.hid hbl
 have HAX:=Lib.hid hAX
 have HZC:=Lib.hid hZc
 have HRC:=Lib.hid hrc
 have HRL:=Lib.hid hrl
 clear hp1 hp2 hl1 hcellg hvc hrun hkk hh1 hg hv hown hAB hxa hxb hxc hR hZa hZb h1x h1b hal hxl hbl hAX hZl hZ1 hni hZc hrc hrl hAl hCl
 have hg1':=Lib.hid hg1
 clear hg1
 have hc1i:¬c1= i:=by omega
 have hci:¬c= i:=by omega
 have hin:¬(i:Int)=(n:Int):=by omega
 have hc1j:¬c1= i+1:= by omega
 have hw1:IntKind.i64.wrap ((i:Int)+1)=(i:Int)+1:= IntWalk.i64_in _ ⟨by omega,by omega⟩
 have hb0:(0:Int)≤(i:Int)+1:= by omega
 have htn:((i:Int)+1).toNat=i+ 1:=by omega
 have hb3:(i:Int)≤(n:Int):=by omega
 have hb4:i≤ n:=by omega
 go_enter Tryz.func176,Tryz.ntmps176
 go_wp2_with(first|(at_builtin;refine Lib.wpList_append_run _ rfl (.tmp 34) (.tmp 39) _ _ rfl _ _ rfl rfl _ _ RUN.out ?_)|(refine wpList_copy_whole laySes Tryz.underlying24 rfl (.tmp 43) (.tmp 44) rfl g1 (i*(laySes).size) A M1 (M2++R2) X 92 HH1.out HAL.out HMA.out H1X.out (n+1- i) (c1-i) 1 1 1 ⟨vb,0,none⟩ (Nat.min_eq_left (by omega)) (by rw[HXL.out,Nat.one_mul]) (fun j u hj=>by rw[Addr.add_mid];exact HVC.out j u hj) rfl rfl ?_;intro w2 hh2 hb2 ho2 hs2;have HH2:=Lib.hid hh2;have HB2:=Lib.hid hb2;have HO2:=Lib.hid ho2;clear hh2 hb2 ho2))
 go_still_tail 8,(by kernel_rfl)
 change wpList _ _ _ _ _ w2.drew
 have hd2:Below w.heap.size w2 w2.drew:=(Below.refl _ _).drew
 have HH3:Hid (w2.drew.heap[g1]? =some (.cells (A++(X++(M2++R2))).toArray 92 (0,0))):=HH2.out
 have HCG3:Hid (∀j u,(A++Bs)[j]? =some u→w2.drew.cell? ⟨g,0+j,none⟩=some u):=fun j u hj=>by
  have:w2.drew.cell? ⟨g,0+j,none⟩=w1.cell? ⟨g,0+j,none⟩:=World.cell?_of_block (w:=w1) (HO2.out g hgg)
  rw[this];exact HCG.out j u hj
 generalize w2.drew=w3 at hd2 HH3 HCG3 ⊢
 clear HH2 HO2
 refine wpList_copy_whole laySes Tryz.underlying24 rfl (.tmp 50) (.tmp 53) rfl g1 ((i+1)*(laySes).size) (A++X) M2 R2 Bs 92 (by rw[List.append_assoc];exact HH3.out) HAX.out HMB.out H1B.out (n-i) (c1-(i+1)) (n-i) (c-i) (n-i) ⟨g,i*(laySes).size,none⟩ (Nat.min_self _) HBL.out (fun j u hj=>by
  rw[Addr.add_mid]
  have:=HCG3.out (i*(laySes).size+j) u (by rw[List.getElem?_append_right (by rw[HAL.out];omega),HAL.out,Nat.add_sub_cancel_left];exact hj)
  rw[Nat.zero_add]at this;exact this) (by simp[Act.eval];first|rfl| omega) rfl ?_
 intro w4 hh4 hb4 ho4 hs4
 have HH4:=Lib.hid hh4
 have HB4:=Lib.hid hb4
 clear hh4 hb4 ho4
 go_wp2
 go_returns
 have hfin:w4.heap[g1]? =some (.cells ((A++(X++Bs))++R2).toArray 92 (0,0)):=by rw[HH4.out];congr 3;simp
 have hres:(A++(X++Bs)).length=(n+1)*(laySes).size:=by rw[←HRC.out,(laySes).length,HRL.out]
 refine⟨some ⟨g1,0,none⟩,c1,by rw[HRL.out];rfl,?_,?_⟩
 ·rw[HRL.out,HRC.out]
  exact own_of_whole (D:=R2) (by rw[hg1'.out];exact hB) hc1 hcm1 hres hfin (by rw[List.length_append,hres];have:=HZC.out;omega)
 ·have q1:Below B w w2:=(hb1.mono hB).trans (HB2.out B (by rw[hg1'.out];exact hB))
  exact(q1.trans (hd2.mono hB)).trans (HB4.out B (by rw[hg1'.out];exact hB))
set_option maxHeartbeats 4000000 in
set_option maxRecDepth 100000 in
theorem insertShiftSes (xs:List Session) (x:Session) (i n c g:Nat) (vb:Nat) (te:TypeId) (B:Nat) (w:World) (hn:xs.length= n) (hi:i< n) (hc:n+ 1≤c) (hown:w.ownsRow B 92 (laySes).size (.slice (some ⟨g,0,none⟩) n c) n (xs.flatMap (laySes).cells))
 (hv:w.heap[vb]? =some (.cells ((laySes).cells x).toArray te (0,0))) (hne:vb≠ g) (hby:(n+1)*(laySes).bytes≤140737488355328):
 Calls Tryz.prog 176 #[.slice (some ⟨g,0,none⟩) n c,.int .i64 i,.slice (some ⟨vb,0,none⟩) 1 1] w (RetInsSes B w (xs.take i++x:: xs.drop i)):=by
 obtain⟨hBg,hnc,hcm,hAl,D,hg,hCl⟩:=own_whole hown
 have hbp:=(laySes).bpos
 have hsp:=(laySes).pos
 have hn1:n+ 1≤140737488355328:= Nat.le_trans (Nat.le_mul_of_pos_right _ hbp) hby
 have hAB:xs.flatMap (laySes).cells=(xs.take i).flatMap (laySes).cells++(xs.drop i).flatMap (laySes).cells:=by rw[←List.flatMap_append,List.take_append_drop]
 have hal:((xs.take i).flatMap (laySes).cells).length=i* (laySes).size:=by rw[(laySes).length,List.length_take];congr 1;omega
 have hbl:((xs.drop i).flatMap (laySes).cells).length=(n-i)*(laySes).size:=by rw[(laySes).length,List.length_drop,hn]
 have hxl:=(laySes).len x
 have h1x:=(laySes).one x
 have h1b:=(laySes).ones (xs.drop i)
 have hrl:(xs.take i++x:: xs.drop i).length=n+ 1:=by simp;omega
 have hrc:=midSes_cells xs x i
 have hov:=fun (o lb cb:Nat)=>overlapsSes_no w vb g o 1 1 lb cb te 92 _ _ hne hv hg (by
  rw[List.size_toArray,hCl]
  have:=Nat.mul_pos (show 0<c by omega) hsp
  omega)
 generalize hR:(xs.take i++x:: xs.drop i)=res at hrl hrc ⊢
 generalize hxa:(xs.take i).flatMap (laySes).cells=A at hAB hal hrc
 generalize hxb:(xs.drop i).flatMap (laySes).cells=Bs at hAB hbl h1b hrc
 generalize hxc:(laySes).cells x=X at hv hxl h1x hrc
 rw[hAB]at hg hCl
 have hvl:vb< w.heap.size:=(Array.getElem?_eq_some_iff.1 hv).1
 have hvc:∀j u,X[j]? =some u→w.cell? ⟨vb,0+j,none⟩=some u:=fun j u hj=>by
  simp only[World.cell?,hv,Nat.zero_add,Option.isSome_none,Bool.false_eq_true,if_false]
  rw[List.getElem?_toArray,hj]
 have hcellg:∀j u,(A++Bs)[j]? =some u→w.cell? ⟨g,0+j,none⟩=some u:=fun j u hj=>by
  have hlt:=(List.getElem?_eq_some_iff.1 hj).1
  simp only[World.cell?,hg,Nat.zero_add,Option.isSome_none,Bool.false_eq_true,if_false]
  rw[List.getElem?_toArray,List.getElem?_append_left hlt,hj]
 have hcs:=Nat.mul_le_mul_right (laySes).size hc
 have hni:(n+1)*(laySes).size=i* (laySes).size+(laySes).size+(n-i)*(laySes).size:=by rw[←Nat.succ_mul,←Nat.add_mul];congr 1;omega
 have hi1:(i+1)*(laySes).size=i* (laySes).size+(laySes).size:=Nat.succ_mul _ _
 have hT:Bs++ D=(Bs++D).take (laySes).size++(((Bs++D).drop (laySes).size).take ((n-i)*(laySes).size)++((Bs++D).drop (laySes).size).drop ((n-i)*(laySes).size)):=by rw[List.take_append_drop,List.take_append_drop]
 have hTl:(Bs++D).length+i* (laySes).size=c* (laySes).size:=by rw[List.length_append,List.length_append,hal]at hCl;rw[List.length_append];omega
 have hMa:((Bs++D).take (laySes).size).length=X.length:= by rw[List.length_take,hxl];omega
 have hMb:(((Bs++D).drop (laySes).size).take ((n-i)*(laySes).size)).length=Bs.length:= by rw[List.length_take,List.length_drop,hbl];omega
 have hMc:(((Bs++D).drop (laySes).size).drop ((n-i)*(laySes).size)).length+(n+1)*(laySes).size=c* (laySes).size:=by rw[List.length_drop,List.length_drop];omega
 rw[List.append_assoc,hT]at hg
 generalize(Bs++D).take (laySes).size=M1 at hg hMa
 generalize((Bs++D).drop (laySes).size).take ((n-i)*(laySes).size)=M2 at hg hMb
 generalize((Bs++D).drop (laySes).size).drop ((n-i)*(laySes).size)=R2 at hg hMc
 have hAM:(A++M1).length=(i+1)*(laySes).size:=by rw[List.length_append,hal,hMa,hxl,Nat.succ_mul]
 have hcm':=lt_maxLen hcm
 have HG:=Lib.hid hg
 have HVC:=Lib.hid hvc
 have HCG:=Lib.hid hcellg
 have HMA:=Lib.hid hMa
 have HMB:=Lib.hid hMb
 have H1X:=Lib.hid h1x
 have H1B:=Lib.hid h1b
 have HAL:=Lib.hid hal
 have HXL:=Lib.hid hxl
 have HBL:=Lib.hid hbl
 have HAM:=Lib.hid hAM
 have HMC:=Lib.hid hMc
 have HRC:=Lib.hid hrc
 have HRL:=Lib.hid hrl
 clear hT hTl hcellg hvc hg hv hown hAB hxa hxb hxc hR hMa hMb h1x h1b hal hxl hbl hAM hni hi1 hcs hMc hrc hrl hAl hCl
 have hci:¬c= i:=by omega
 have hin:¬(i:Int)=(n:Int):=by omega
 have hcj:¬c= i+1:= by omega
 have hw1:IntKind.i64.wrap ((i:Int)+1)=(i:Int)+1:= IntWalk.i64_in _ ⟨by omega,by omega⟩
 have hb0:(0:Int)≤(i:Int)+1:= by omega
 have htn:((i:Int)+1).toNat=i+ 1:=by omega
 have hb3:(i:Int)≤(n:Int):=by omega
 have hb4:i≤ n:=by omega
 have hb5:(i:Int)≤(n:Int)+1:= by omega
 have hb6:i≤ n+1:= by omega
 go_enter Tryz.func176,Tryz.ntmps176
 go_wp2_with(simp only[hov])
 go_still_tail 8,(by kernel_rfl)
 change wpList _ _ _ _ _ w.drew
 have hd2:Below g w w.drew:=(Below.refl _ _).drew
 have HG3:Hid (w.drew.heap[g]? =some (.cells (A++(M1++(M2++R2))).toArray 92 (0,0))):=HG.out
 have HCG3:Hid (∀j u,(A++Bs)[j]? =some u→w.drew.cell? ⟨g,0+j,none⟩=some u):=HCG.out
 have HVC3:Hid (∀j u,X[j]? =some u→w.drew.cell? ⟨vb,0+j,none⟩=some u):=HVC.out
 clear hov HG HCG HVC
 generalize w.drew=w3 at hd2 HG3 HCG3 HVC3 ⊢
 refine wpList_copy_whole laySes Tryz.underlying24 rfl (.tmp 73) (.tmp 76) rfl g ((i+1)*(laySes).size) (A++M1) M2 R2 Bs 92 (by rw[List.append_assoc];exact HG3.out) HAM.out HMB.out H1B.out (n-i) (c-(i+1)) (n+1- i) (c-i) (n-i) ⟨g,i*(laySes).size,none⟩ (Nat.min_eq_right (by omega)) HBL.out (fun j u hj=>by
  rw[Addr.add_mid]
  have:=HCG3.out (i*(laySes).size+j) u (by rw[List.getElem?_append_right (by rw[HAL.out];omega),HAL.out,Nat.add_sub_cancel_left];exact hj)
  rw[Nat.zero_add]at this;exact this) (by simp[Act.eval];first|rfl| omega) (by simp[Act.eval];first|rfl| omega) ?_
 intro w4 hh4 hb4 ho4 hs4
 have HH4:Hid (w4.heap[g]? =some (.cells (A++(M1++(Bs++R2))).toArray 92 (0,0))):=by show _=_;rw[hh4,List.append_assoc]
 have HB4:=Lib.hid hb4
 have HVC4:Hid (∀j u,X[j]? =some u→w4.cell? ⟨vb,0+j,none⟩=some u):=fun j u hj=>by
  have:w4.cell? ⟨vb,0+j,none⟩=w3.cell? ⟨vb,0+j,none⟩:=World.cell?_of_block (w:=w3) (ho4 vb hne)
  rw[this];exact HVC3.out j u hj
 clear hh4 hb4 ho4
 go_wp2_with(refine wpList_copy_whole laySes Tryz.underlying24 rfl (.tmp 80) (.tmp 81) rfl g (i*(laySes).size) A M1 (Bs++R2) X 92 HH4.out HAL.out HMA.out H1X.out (n+1- i) (c-i) 1 1 1 ⟨vb,0,none⟩ (Nat.min_eq_left (by omega)) (by rw[HXL.out,Nat.one_mul]) (fun j u hj=>by rw[Addr.add_mid];exact HVC4.out j u hj) rfl rfl ?_;intro w5 hh5 hb5 ho5 hs5;have HH5:=Lib.hid hh5;have HB5:=Lib.hid hb5;clear hh5 hb5 ho5)
 go_returns
 have hfin:w5.heap[g]? =some (.cells ((A++(X++Bs))++R2).toArray 92 (0,0)):=by rw[HH5.out];congr 3;simp
 have hres:(A++(X++Bs)).length=(n+1)*(laySes).size:=by rw[←HRC.out,(laySes).length,HRL.out]
 refine⟨some ⟨g,0,none⟩,c,by rw[HRL.out];rfl,?_,?_⟩
 ·rw[HRL.out,HRC.out]
  exact own_of_whole (D:=R2) hBg hc hcm hres hfin (by rw[List.length_append,hres];have:=HMC.out;omega)
 ·exact((hd2.mono hBg).trans (HB4.out B hBg)).trans (HB5.out B hBg)
def RetInsNSes (B:Nat) (w:World) (m:Nat) (xs:List Session) (e:Ending) (w':World):Prop:=
 ∃a' c',e= .returned (.slice a' m c')∧w'.ownsRow B 92 (laySes).size (.slice a' m c') m (xs.flatMap (laySes).cells)∧Below B w w'
theorem insertSes (xs:List Session) (x:Session) (i n c:Nat) (a:Option Addr) (vb:Nat) (te:TypeId) (B:Nat) (w:World) (hn:xs.length= n) (hi:i≤ n) (hcan:Can w B 92 (laySes).size a n c (xs.flatMap (laySes).cells))
 (hown:0< n→w.ownsRow B 92 (laySes).size (.slice a n c) n (xs.flatMap (laySes).cells)) (hv:w.heap[vb]? =some (.cells ((laySes).cells x).toArray te (0,0))) (hne:∀b o s,a=some ⟨b,o,s⟩→vb≠ b) (hby:(n+1)*(laySes).bytes≤140737488355328) (hB:B≤ w.heap.size):
 Calls Tryz.prog 176 #[.slice a n c,.int .i64 i,.slice (some ⟨vb,0,none⟩) 1 1] w (RetInsNSes B w (n+1) (xs.take i++x:: xs.drop i)):=by
 have hlen:(xs.take i++x:: xs.drop i).length=n+ 1:=by simp;omega
 have fin:∀e w',RetInsSes B w (xs.take i++x:: xs.drop i) e w'→RetInsNSes B w (n+1) (xs.take i++x:: xs.drop i) e w':=fun e w' ⟨a',c',h1,h2,h3⟩=>by
  rw[hlen]at h1 h2
  exact⟨a',c',h1,h2,h3⟩
 refine Calls.mono ?_ fin
 by_cases h:i= n
 ·subst h
  have:=insertEndSes xs x i c a vb te B w hn hcan hv hby hB
  rw[List.take_of_length_le (by omega),List.drop_of_length_le (by omega)]
  exact this
 ·have ho:=hown (by omega)
  obtain⟨g,rfl,hBg,hcm⟩:=own_head ho (by intro h0;have:=congrArg List.length h0;rw[(laySes).length,List.length_nil,Nat.mul_eq_zero]at this;have:=(laySes).pos;omega)
  by_cases hc:c< n+1
  ·exact insertGrowSes xs x i n c g vb te B w hn (by omega) hc ho hv hby hB
  ·exact insertShiftSes xs x i n c g vb te B w hn (by omega) (by omega) ho hv (hne g 0 none rfl) hby
set_option maxHeartbeats 4000000 in
set_option maxRecDepth 100000 in
theorem binSearchSes (xs:List Session) (y:Session) (a:Option Addr) (n c:Nat) (fid:FuncId) (cap:Array Value) (cmp:Session→ Int) (k0:Nat) (w:World) (hn:xs.length= n) (hl:n≤ 1000000) (hr:LRow laySes w a xs)
 (hcf:∀(args:Array Value) (w:World),(callFunc fid args).run Tryz.prog w= .ok (.enter fid args) w)
 (hf:∀x∈ xs,∀w',Below w.heap.size w w'→Calls Tryz.prog fid (#[x.agg,y.agg]++cap) w' fun e w''=>e= .returned (.int .i64 (cmp x))∧Below w'.heap.size w' w'')
 (hk0:k0≤ n) (hlo:∀j (h:j< xs.length),j<k0→ cmp xs[j]<0) (hhi:∀j (h:j< xs.length),k0≤j→ 0≤cmp xs[j]):
 Calls Tryz.prog 175 #[.slice a n c,y.agg,.func (.func fid) #[] cap] w fun e w'=>e= .returned (.tuple #[.int .i64 k0,.bool (hitAt cmp xs[k0]?)])∧Below w.heap.size w w':=by
 subst hn
 have HF:=Lib.hid hf
 have HLO:=Lib.hid hlo
 have HHI:=Lib.hid hhi
 have HE:Hid (∀x,xs[k0]? =some x→(hitAt cmp xs[k0]?)=(cmp x==0)):=fun x hx=>by rw[hx];rfl
 have HN:Hid (xs[k0]? =none→ (hitAt cmp xs[k0]?)=false):=fun hx=>by rw[hx];rfl
 generalize hitAt cmp xs[k0]? =res at HE HN ⊢
 clear hf hlo hhi
 have HY:∀w',Below (w.alloc (.cells (Session.cells y).toArray 92)).heap.size (w.alloc (.cells (Session.cells y).toArray 92)) w'→w'.rangeAt w.heap.size 0 (Session.cells y):=fun w' hb j v hv=>by
  rw[Nat.zero_add,own_cells hb j,List.getElem?_toArray,hv]
 have HYY:=Lib.hid HY
 clear HY
 go_enter Tryz.func175,Tryz.ntmps175
 go_wp2
 go_loopw [9,10] (fun si sj wr=>∃i j:Nat,si= .int .i64 i∧sj= .int .i64 j∧i≤ k0∧k0≤ j∧j≤ xs.length∧Hid (Below (w.alloc (.cells (Session.cells y).toArray 92)).heap.size (w.alloc (.cells (Session.cells y).toArray 92)) wr)) (fun si sj _=>(intOf sj).toNat-(intOf si).toNat)
 case atStart=>exact ⟨0,xs.length,rfl,rfl,by omega,hk0,by omega,Below.refl _ _⟩
 case round=>
  obtain⟨i,j,rfl,rfl,hik,hkj,hjn,hb⟩:=hrel
  by_cases hlt:i< j
  ·obtain⟨m,hm⟩:∃m: Nat,((i:Int)+(j:Int))/2= (m:Int):=⟨(i+j)/2,by omega⟩
   have him:i≤ m:=by omega
   have hmj:m< j:=by omega
   have hmx:m< xs.length:=by omega
   have HM:=Lib.hid hm
   clear hm
   obtain⟨b,o,rfl,hrg⟩:=atSes hr hmx
   have hbw:Below w.heap.size w wr:=((Below.refl w.heap.size w).alloc (Nat.le_refl _) _).trans (hb.mono (by simp))
   have hx0:=hrg wr hbw
   have hy0:=cellsSes (HYY.out wr hb.out)
   simp only[Nat.zero_add]at hy0
   have HX:=Lib.hid hx0
   have HYL:=Lib.hid hy0
   have HF1:=Lib.hid (fun w' hb=>HF.out xs[m] (List.getElem_mem hmx) w' hb)
   have HLO1:=Lib.hid (fun h:m< k0=>HLO.out m hmx h)
   have HHI1:=Lib.hid (fun h:k0≤ m=>HHI.out m hmx h)
   generalize hxm:xs[m]=x at HX HF1 HLO1 HHI1
   clear hrg hx0 hy0 hxm
   go_wp2
   rw[HM.out]
   have hx:=HX.out
   have hy:=HYL.out
   go_still_tail 6,(by kernel_rfl)
   change wpList _ _ _ _ _ wr.drew
   clear hx hy
   go_wp2_with(refine(HF1.out _ hbw.drew).mono ?_;rintro e w4 ⟨rfl,hb4⟩)
   ·have hmk:m< k0:=by
     rcases Nat.lt_or_ge m k0 with h|h
     ·exact h
     ·have:=HHI1.out h;omega
    exact⟨⟨m+1,j,by go_num,rfl,by omega,hkj,hjn,hb.out.drew.trans (hb4.mono hb.out.size)⟩,by simp[intOf];omega⟩
   ·have hmk:k0≤ m:=by
     rcases Nat.lt_or_ge m k0 with h|h
     ·have:=HLO1.out h;omega
     ·exact h
    exact⟨⟨i,m,rfl,rfl,hik,hmk,by omega,hb.out.drew.trans (hb4.mono hb.out.size)⟩,by simp[intOf];omega⟩
  ·obtain rfl:i= k0:=by omega
   have hbw:Below w.heap.size w wr:=((Below.refl w.heap.size w).alloc (Nat.le_refl _) _).trans (hb.out.mono (by simp))
   by_cases hkn:i< xs.length
   ·obtain⟨b,o,rfl,hrg⟩:=atSes hr hkn
    have hx0:=hrg wr hbw
    have hy0:=cellsSes (HYY.out wr hb.out)
    simp only[Nat.zero_add]at hy0
    have HX:=Lib.hid hx0
    have HYL:=Lib.hid hy0
    have HF1:=Lib.hid (fun w' hb=>HF.out xs[i] (List.getElem_mem hkn) w' hb)
    have HE1:=Lib.hid (HE.out xs[i] (List.getElem?_eq_getElem hkn))
    have HRG:=Lib.hid hrg
    generalize hxm:xs[i]=x at HX HF1 HE1 HRG
    clear hrg hx0 hy0 hxm HE HN
    have hg8:decide ((i:Int)<(xs.length:Int))=true:= decide_eq_true (by omega)
    go_wp2
    go_region_held3 (fun w'=>(w'.cell? ⟨b,o+i* 7,none⟩=some (.int .i64 x.client)∧w'.cell? ⟨b,o+i* 7+1,none⟩=some (.int .i64 x.number)∧w'.cell? ⟨b,o+i* 7+2,none⟩=some (.int .i64 x.answer.e)∧w'.cell? ⟨b,o+i* 7+3,none⟩=some (.int .i64 x.answer.rate)∧w'.cell? ⟨b,o+i* 7+4,none⟩=some (.int .i64 x.answer.burst)∧w'.cell? ⟨b,o+i* 7+5,none⟩=some (.int .i64 x.answer.lease)∧w'.cell? ⟨b,o+i* 7+6,none⟩=some (.int .i64 x.answer.size))∧(w'.cell? ⟨w.heap.size,0,none⟩=some (.int .i64 y.client)∧w'.cell? ⟨w.heap.size,1,none⟩=some (.int .i64 y.number)∧w'.cell? ⟨w.heap.size,2,none⟩=some (.int .i64 y.answer.e)∧w'.cell? ⟨w.heap.size,3,none⟩=some (.int .i64 y.answer.rate)∧w'.cell? ⟨w.heap.size,4,none⟩=some (.int .i64 y.answer.burst)∧w'.cell? ⟨w.heap.size,5,none⟩=some (.int .i64 y.answer.lease)∧w'.cell? ⟨w.heap.size,6,none⟩=some (.int .i64 y.answer.size))) ((first|exact ⟨HX.out,HYL.out⟩|exact ⟨HX4.out,HY4.out⟩)) (first|(refine(HF1.out _ (by first|exact hbw|exact hbw.drew)).mono ?_;rintro e w4 ⟨rfl,hb4⟩;have HX4:=Lib.hid (HRG.out w4 (hbw.drew.trans (hb4.mono hbw.size)));have hy4:=cellsSes (HYY.out w4 (hb.out.drew.trans (hb4.mono hb.out.size)));simp only[Nat.zero_add]at hy4;have HY4:=Lib.hid hy4;clear hy4))
    go_wp2
    go_returns
    exact⟨by rw[HE1.out];rfl,hbw.drew.trans (hb4.mono hbw.size)⟩
   ·have HN1:=Lib.hid (HN.out (List.getElem?_eq_none (by omega)))
    have hg8:decide ((i:Int)<(xs.length:Int))=false:= decide_eq_false (by omega)
    go_wp2
    go_quiet (fail)
    go_wp2
    go_returns
    exact⟨by rw[HN1.out];rfl,below_drewN hbw _⟩
theorem keep1_any (x y:Session) (w:World) (h1:0≤ x.client) (h2:x.client≤ 1000000) (h3:0≤ y.client) (h4:y.client≤ 1000000):
 Calls Tryz.prog 161 #[x.agg,y.agg] w fun e w'=>e= .returned (.int .i64 (x.client-y.client))∧Below w.heap.size w w':=by
 obtain⟨xc,xn,xa⟩:=x
 obtain⟨yc,yn,ya⟩:=y
 simp only at h1 h2 h3 h4
 go_enter Tryz.func161,Tryz.ntmps161
 go_wp2
 go_returns
 exact⟨rfl,belo⟩
theorem enter_keep1 (args:Array Value) (w:World):(callFunc 161 args).run Tryz.prog w= .ok (.enter 161 args) w:=by kernel_rfl
def RetS (w:World) (l:List Session) (e:Ending) (w':World):Prop:=
 ∃a c,e= .returned (.slice a l.length c)∧l.length≤ c∧c≤ maxLen∧(a=none→ c=0)∧LRow laySes w' a l∧Below w.heap.size w w'
theorem own_full {w:World} {B:Nat} {a:Option Addr} {n c:Nat} {xs:List Session} (h:w.ownsRow B 92 laySes.size (.slice a n c) n (xs.flatMap laySes.cells)):n≤ c∧c≤ maxLen∧(a=none→ c=0)∧LRow laySes w a xs:=by
 obtain⟨a',c',hv,h1,h2,h3⟩:=own_slice h
 simp only[Value.slice.injEq]at hv
 obtain⟨rfl,_,rfl⟩:=hv
 exact⟨h1,h2,h3,own_row h⟩
set_option maxHeartbeats 4000000 in
theorem put_ses (l:List Session) (x:Session) (a:Option Addr) (n c:Nat) (w:World) (hn:l.length= n) (hl:n≤ 10000) (hc:a= none→c= 0) (hnc:n≤ c) (hr:LRow laySes w a l) (hs:sessOk l=true) (hx1:1≤ x.client) (hx2:x.client≤ 16):
 Calls Tryz.prog 160 #[.slice a n c,x.agg,.func (.func 161) #[] #[]] w (RetS w (insK Session.client x l)):=by
 subst hn
 have hwf:=sessOk_wf hs
 have hpw:=(chainOk_iff.1 hs).2
 have hle:=lessK_le (key:=Session.client) x.client l
 have HS1:=Lib.hid (fun(y:Session) (hy:y∈ l) w'=>keep1_any y x w' (by have:=hwf y hy;omega) (by have:=hwf y hy;omega) (by omega) (by omega))
 have HLO:=Lib.hid (fun j (h:j< l.length) (hj:j< lessK Session.client x.client l)=>show l[j].client-x.client< 0 by have:=lessK_lo x.client j h hj;omega)
 have HHI:=Lib.hid (fun j (h:j< l.length) (hj:lessK Session.client x.client l≤j)=>show 0≤l[j].client-x.client by have:=lessK_hi x.client hpw j h hj;omega)
 have HSOME:=Lib.hid (fun y (h1:l[lessK Session.client x.client l]? =some y) (h2:y.client= x.client)=>insK_some h1 h2)
 have HNONE:=Lib.hid (fun(h:∀y,l[lessK Session.client x.client l]? =some y→y.client≠ x.client)=>insK_none h)
 have HLEN:Hid ((insK Session.client x l).length=(insK Session.client x l).length):=rfl
 generalize lessK Session.client x.client l=k0 at hle HLO HHI HSOME HNONE
 generalize insK Session.client x l=res at HSOME HNONE ⊢
 clear hs hwf hpw HLEN
 have hcf:=enter_keep1
 have HBS:=Lib.hid (fun w' (hb:Below w.heap.size w w')=>binSearchSes l x a l.length c 161 #[] (fun s=>s.client- x.client) k0 w' rfl (by omega) (LRow.below hr hb) hcf (fun y hy w'' _=>HS1.out y hy w'') hle HLO.out HHI.out)
 have HBX:=Lib.hid (fun w' (hb:Below (World.alloc w (.cells (Session.cells x).toArray 92)).heap.size (World.alloc w (.cells (Session.cells x).toArray 92)) w')=>box_range hb)
 have hnew:∀w3: World,(w3.alloc (.cells #[.int .i64 x.client,.int .i64 x.number,.int .i64 x.answer.e,.int .i64 x.answer.rate,.int .i64 x.answer.burst,.int .i64 x.answer.lease,.int .i64 x.answer.size] 92)).heap[w3.heap.size]? =some (.cells (laySes.cells x).toArray 92 (0,0)):=fun w3=>heap_alloc_new w3 _
 have HNEW:=Lib.hid hnew
 clear hnew
 have hby:l.length* laySes.bytes≤140737488355328:= by show l.length*56≤ _;omega
 have hby1:(l.length+1)*laySes.bytes≤ 140737488355328:=by show(l.length+1)*56≤ _;omega
 by_cases hhit:∃y,l[k0]? =some y∧y.client= x.client
 ·obtain⟨y,hy1,hy2⟩:=hhit
  obtain⟨hk0,_⟩:=List.getElem?_eq_some_iff.1 hy1
  have HR:=Lib.hid (HSOME.out y hy1 hy2)
  have HTH:Hid (hitAt (fun s:Session=> s.client-x.client) l[k0]? =true):=by show _=_;rw[hy1];simp[hitAt,hy2]
  have hne:0< l.length:=by omega
  have HRL:Hid (res.length=l.length):=by show _=_;rw[HR.out,List.length_set]
  clear hy1 hy2
  go_enter Tryz.func160,Tryz.ntmps160
  go_wp2_with(first|(go_at_call 175;((with_reducible refine(HBS.out _ belo).mono ?_);rw[HTH.out];rintro e w2 ⟨rfl,hb2⟩))|(go_at_call 100;((with_reducible refine(cloneSes l a _ _ _ rfl hby (le_maxLen (by omega)) hc hnc (LRow.below hr belo)).mono ?_);rintro e w3 ⟨a3,c3,rfl,hnear3,hcan3,hown3,hlt3,hb3⟩;have HX3:=Lib.hid (HBX.out w3 belo);have sx3:=Below.boxed (show Below (World.alloc w (.cells (Session.cells x).toArray 92)).heap.size (World.alloc w (.cells (Session.cells x).toArray 92)) w3 from belo);obtain⟨g,rfl,hg3,hcm3⟩:=own_head (hown3 hne) (by intro h;have:=congrArg List.length h;rw[laySes.length,List.length_nil,Nat.mul_eq_zero]at this;have:=laySes.pos;omega);have hm3:=Lib.hid (Mine.of_own (L:=laySes) (hown3 hne));have hle3:=hcan3.le;clear hcan3 hown3))|(refine wpList_load_as laySes rfl (.tmp 4) rfl w.heap.size 0 rfl x x.agg rfl HX3.out ?_)|(refine wpList_store_mine laySes rfl (.tmp 23) (.tmp 22) rfl (o:=0) hm3.out k0 hk0 x (by rw[Nat.zero_add];rfl) rfl ?_;intro w4 hm4 hb4 hs4;have HM4:=Lib.hid hm4;have hb5:=hb4 w2.heap.size hg3;clear hm4 hb4))
  go_returns
  refine⟨some ⟨g,0,none⟩,c3,by rw[HRL.out];rfl,by rw[HRL.out];exact hle3,hcm3,(fun h=>by cases h),by rw[HR.out];exact HM4.out.row,?_⟩
  have q2:Below w.heap.size w w2:=belo
  exact q2.trans ((hb3.trans hb5).mono q2.size)
 ·have HR:=Lib.hid (HNONE.out (fun y h1 h2=>hhit ⟨y,h1,h2⟩))
  have HTH:Hid (hitAt (fun s:Session=> s.client-x.client) l[k0]? =false):=by
   show _=_
   cases hh:l[k0]? with
   |none=> rfl
   |some y=>unfold hitAt;rw[beq_eq_false_iff_ne];intro h;exact hhit ⟨y,hh,by simp only at h;omega⟩
  clear hhit
  go_enter Tryz.func160,Tryz.ntmps160
  go_wp2_with(first|(go_at_call 175;((with_reducible refine(HBS.out _ belo).mono ?_);rw[HTH.out];rintro e w2 ⟨rfl,hb2⟩))|(go_at_call 100;((with_reducible refine(cloneSes l a _ _ _ rfl hby (le_maxLen (by omega)) hc hnc (LRow.below hr belo)).mono ?_);rintro e w3 ⟨a3,c3,rfl,hnear3,hcan3,hown3,hlt3,hb3⟩;have HX3:=Lib.hid (HBX.out w3 belo);have sx3:=Below.boxed (show Below (World.alloc w (.cells (Session.cells x).toArray 92)).heap.size (World.alloc w (.cells (Session.cells x).toArray 92)) w3 from belo);have hsz3:=hb3.size))|(refine wpList_load_as laySes rfl (.tmp 4) rfl w.heap.size 0 rfl x x.agg rfl HX3.out ?_)|(go_at_call 176;((with_reducible refine(insertSes l x k0 l.length c3 a3 w3.heap.size 92 w2.heap.size _ rfl hle (hcan3.alloc _) (fun h=>(hown3 h).alloc _) (HNEW.out w3) (fun b o s hab=>Nat.ne_of_gt (hlt3 b o s hab)) hby1 (Nat.le_trans hsz3 (by simp))).mono ?_);rintro e w4 ⟨a4,c4,rfl,hown4,hb4⟩)))
  go_returns
  obtain⟨h1,h2,h3,h4⟩:=own_full hown4
  have hfin:res= l.take k0++x:: l.drop k0:=HR.out
  have hlen:res.length= l.length+1:= by rw[hfin];simp;omega
  refine⟨a4,c4,by rw[hlen];rfl,by rw[hlen];exact h1,h2,h3,by rw[hfin];exact h4,?_⟩
  have q2:Below w.heap.size w w2:=belo
  exact q2.trans ((((hb3.alloc hsz3 _)).trans hb4).mono q2.size)
def RetAsk (w:World) (r:Ans× Bool×Int) (e:Ending) (w':World):Prop:= e= .returned (.tuple #[r.1.agg,.bool r.2.1,.int .i64 r.2.2])∧Below w.heap.size w w'
theorem mayS_ok {l:List Session} {c n:Int} (h:mayS l c n=true):sessOk l=true∧ 1≤c∧ c≤16∧ 1≤n:= by
 unfold mayS at h
 simp only[Bool.and_eq_true,decide_eq_true_eq]at h
 exact⟨h.1,h.2.1,h.2.2.1,h.2.2.2⟩
set_option maxHeartbeats 4000000 in
theorem ask_ses (l:List Session) (a:Option Addr) (n c:Nat) (id num:Int) (w:World) (hn:l.length= n) (hl:n≤ 1000000) (hr:LRow laySes w a l):
 Calls Tryz.prog 113 #[.slice a n c,.int .i64 id,.int .i64 num] w (RetAsk w (askS l id num)):=by
 have HA:Hid (askS l id num=if mayS l id num=false then(Ans.err 0,false,2)else if num<(findS l id).1.number then(Ans.err 0,false,150)else if num=(findS l id).1.number then((findS l id).1.answer,false,0)else(Ans.err 0,true,0)):=rfl
 generalize askS l id num=res at HA ⊢
 have hm:=le_maxLen (Nat.le_trans hl (by decide):n≤ 1048576)
 have HBT:=Lib.hid (fun w' (q:Below (World.alloc w (.cells #[.int .i64 0,.int .i64 0,.int .i64 0,.int .i64 0,.int .i64 0] 40)).heap.size (World.alloc w (.cells #[.int .i64 0,.int .i64 0,.int .i64 0,.int .i64 0,.int .i64 0] 40)) w')=>And.intro (box_there q) (And.intro (box_range (cs:=(Ans.err 0).cells) q) (Below.boxed q)))
 cases hs:mayS l id num with
 |false=>
  have HS:=Lib.hid hs
  rw[hs,if_pos rfl]at HA
  clear hs
  go_enter Tryz.func113,Tryz.ntmps113
  go_wp2_with(first|(go_at_call 157;((with_reducible refine(may_ses l _ _ _ _ _ _ hn hm (LRow.below hr belo)).mono ?_);rw[HS.out];rintro e w2 ⟨rfl,hb⟩;obtain⟨ht2,hg2,hz2⟩:=HBT.out w2 belo;have HT:=Lib.hid ht2;have HG:=Lib.hid hg2;clear ht2 hg2))|(refine wpList_load_as layAns rfl (.tmp 6) rfl w.heap.size 0 rfl (Ans.err 0) (Ans.err 0).agg rfl HG.out ?_)|(refine wpList_store_there layAns rfl (.tmp 6) (.tmp 16) rfl w.heap.size 0 (Ans.err 0) rfl rfl HT.out ?_;intro w5 hr5 _ hb5 _;have HR5:=Lib.hid hr5;have hb6:=hb5 w.heap.size (Nat.le_refl _);clear hr5 hb5))
  obtain⟨c0,c1,c2,c3,c4⟩:=cellsAns HR5.out
  simp only[Nat.zero_add]at c1 c2 c3 c4
  refine bodyPost_ret (v:= .tuple #[(Ans.err 0).agg,.bool false,.int .i64 2]) (by simp[results,Tryz.results113,go_sem,c0,c1,c2,c3,c4]) rfl ?_
  have q:Below w.heap.size w w2:=belo
  exact⟨by rw[HA.out],q.trans hb6⟩
 |true=>
  have HS:=Lib.hid hs
  obtain⟨hs1,hi1,hi2,hn1⟩:=mayS_ok hs
  have HS1:=Lib.hid hs1
  have HID:=Lib.hid (wf_small (n:=id) (by omega) (by omega))
  rw[hs,if_neg (by simp)]at HA
  rcases hf:findS l id with⟨⟨sc,sn,se,sr,sb,sl,sz⟩,ok⟩
  rw[hf]at HA
  simp only at HA
  have HF:=Lib.hid hf
  clear hs hs1 hf hi1 hi2 hn1
  by_cases h1:num< sn
  ·rw[if_pos h1]at HA
   go_enter Tryz.func113,Tryz.ntmps113
   go_wp2_with(first|(go_at_call 157;((with_reducible refine(may_ses l _ _ _ _ _ _ hn hm (LRow.below hr belo)).mono ?_);rw[HS.out];rintro e w2 ⟨rfl,hb⟩))|(go_at_call 158;((with_reducible refine(find_ses l _ _ _ _ _ hn hl (LRow.below hr belo) HS1.out HID.out).mono ?_);rw[HF.out];rintro e w3 ⟨rfl,hb3⟩;obtain⟨ht3,hg3,hz3⟩:=HBT.out w3 belo;have HT:=Lib.hid (World.there_alloc ht3 (.cells #[.int .i64 sc,.int .i64 sn,.int .i64 se,.int .i64 sr,.int .i64 sb,.int .i64 sl,.int .i64 sz] 92));have HG:=Lib.hid (World.rangeAt_alloc hg3 (.cells #[.int .i64 sc,.int .i64 sn,.int .i64 se,.int .i64 sr,.int .i64 sb,.int .i64 sl,.int .i64 sz] 92));clear ht3 hg3))|(refine wpList_load_as layAns rfl (.tmp 6) rfl w.heap.size 0 rfl (Ans.err 0) (Ans.err 0).agg rfl HG.out ?_)|(refine wpList_store_there layAns rfl (.tmp 6) (.tmp 28) rfl w.heap.size 0 (Ans.err 0) rfl rfl HT.out ?_;intro w5 hr5 _ hb5 _;have HR5:=Lib.hid hr5;have hb6:=hb5 w.heap.size (Nat.le_refl _);clear hr5 hb5))
   obtain⟨c0,c1,c2,c3,c4⟩:=cellsAns HR5.out
   simp only[Nat.zero_add]at c1 c2 c3 c4
   refine bodyPost_ret (v:= .tuple #[(Ans.err 0).agg,.bool false,.int .i64 150]) (by simp[results,Tryz.results113,go_sem,c0,c1,c2,c3,c4]) rfl ?_
   have q:Below w.heap.size w (World.alloc w3 (.cells #[.int .i64 sc,.int .i64 sn,.int .i64 se,.int .i64 sr,.int .i64 sb,.int .i64 sl,.int .i64 sz] 92)):=belo
   exact⟨by rw[HA.out],q.trans hb6⟩
  rw[if_neg h1]at HA
  by_cases h2:num= sn
  ·rw[if_pos h2]at HA
   have h3:=h2.symm
   clear h2
   subst h3
   clear h1
   go_enter Tryz.func113,Tryz.ntmps113
   go_wp2_with(first|(go_at_call 157;((with_reducible refine(may_ses l _ _ _ _ _ _ hn hm (LRow.below hr belo)).mono ?_);rw[HS.out];rintro e w2 ⟨rfl,hb⟩))|(go_at_call 158;((with_reducible refine(find_ses l _ _ _ _ _ hn hl (LRow.below hr belo) HS1.out HID.out).mono ?_);rw[HF.out];rintro e w3 ⟨rfl,hb3⟩;obtain⟨ht3,hg3,hz3⟩:=HBT.out w3 belo;have HT:=Lib.hid (World.there_alloc ht3 (.cells #[.int .i64 sc,.int .i64 sn,.int .i64 se,.int .i64 sr,.int .i64 sb,.int .i64 sl,.int .i64 sz] 92));have HG:=Lib.hid (World.rangeAt_alloc hg3 (.cells #[.int .i64 sc,.int .i64 sn,.int .i64 se,.int .i64 sr,.int .i64 sb,.int .i64 sl,.int .i64 sz] 92));clear ht3 hg3))|(refine wpList_store_there layAns rfl (.tmp 6) (.tmp 35) rfl w.heap.size 0 ⟨se,sr,sb,sl,sz⟩ rfl rfl HT.out ?_;intro w5 hr5 _ hb5 _;have HR5:=Lib.hid hr5;have hb6:=hb5 w.heap.size (Nat.le_refl _);clear hr5 hb5))
   obtain⟨c0,c1,c2,c3,c4⟩:=cellsAns HR5.out
   simp only[Nat.zero_add]at c1 c2 c3 c4
   refine bodyPost_ret (v:= .tuple #[Ans.agg ⟨se,sr,sb,sl,sz⟩,.bool false,.int .i64 0]) (by simp[results,Tryz.results113,go_sem,c0,c1,c2,c3,c4]) rfl ?_
   have q:Below w.heap.size w (World.alloc w3 (.cells #[.int .i64 sc,.int .i64 sn,.int .i64 se,.int .i64 sr,.int .i64 sb,.int .i64 sl,.int .i64 sz] 92)):=belo
   exact⟨by rw[HA.out],q.trans hb6⟩
  ·rw[if_neg h2]at HA
   have g2:(num==sn)=false:= beq_eq_false_iff_ne.2 h2
   clear h2
   go_enter Tryz.func113,Tryz.ntmps113
   go_wp2_with(first|(go_at_call 157;((with_reducible refine(may_ses l _ _ _ _ _ _ hn hm (LRow.below hr belo)).mono ?_);rw[HS.out];rintro e w2 ⟨rfl,hb⟩))|(go_at_call 158;((with_reducible refine(find_ses l _ _ _ _ _ hn hl (LRow.below hr belo) HS1.out HID.out).mono ?_);rw[HF.out];rintro e w3 ⟨rfl,hb3⟩;obtain⟨ht3,hg3,hz3⟩:=HBT.out w3 belo;have HT:=Lib.hid (World.there_alloc ht3 (.cells #[.int .i64 sc,.int .i64 sn,.int .i64 se,.int .i64 sr,.int .i64 sb,.int .i64 sl,.int .i64 sz] 92));have HG:=Lib.hid (World.rangeAt_alloc hg3 (.cells #[.int .i64 sc,.int .i64 sn,.int .i64 se,.int .i64 sr,.int .i64 sb,.int .i64 sl,.int .i64 sz] 92));clear ht3 hg3))|(refine wpList_load_as layAns rfl (.tmp 6) rfl w.heap.size 0 rfl (Ans.err 0) (Ans.err 0).agg rfl HG.out ?_)|(refine wpList_store_there layAns rfl (.tmp 6) (.tmp 36) rfl w.heap.size 0 (Ans.err 0) rfl rfl HT.out ?_;intro w5 hr5 _ hb5 _;have HR5:=Lib.hid hr5;have hb6:=hb5 w.heap.size (Nat.le_refl _);clear hr5 hb5))
   obtain⟨c0,c1,c2,c3,c4⟩:=cellsAns HR5.out
   simp only[Nat.zero_add]at c1 c2 c3 c4
   refine bodyPost_ret (v:= .tuple #[(Ans.err 0).agg,.bool true,.int .i64 0]) (by simp[results,Tryz.results113,go_sem,c0,c1,c2,c3,c4]) rfl ?_
   have q:Below w.heap.size w (World.alloc w3 (.cells #[.int .i64 sc,.int .i64 sn,.int .i64 se,.int .i64 sr,.int .i64 sb,.int .i64 sl,.int .i64 sz] 92)):=belo
   exact⟨by rw[HA.out],q.trans hb6⟩
end Go.Proofs.YtfdmhpohfjbpfaaGreat
