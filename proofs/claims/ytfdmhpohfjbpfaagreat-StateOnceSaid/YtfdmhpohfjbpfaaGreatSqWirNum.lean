import Derived.Deep.RegionHeld
import Derived.Test.YtfdmhpohfjbpfaaGreatSq11
set_option linter.unusedVariables false
set_option linter.unusedSimpArgs false
namespace Go.Proofs.YtfdmhpohfjbpfaaGreat
open Go.ChangeShapes Go.WideShapes Go.ChangeAt Go.RowKit
set_option maxRecDepth 100000
def RetCw (w:World) (D g:Nat) (a:Option Addr) (bs:List UInt8) (e:Ending) (w':World):Prop:= ∃a' c',e= .returned (.tuple #[])∧Cw w' D g a' c' bs∧Grew g a a' w w'
theorem beN_get:∀(k u j:Nat) (h:j< (beN k u).length),(beN k u)[j]=UInt8.ofNat (u/256^ (k-1- j)%256)
 |0,_,_,h=>absurd h (by simp[beN])
 |k+ 1,u,0,_=>rfl
 |k+ 1,u,j+1,h=>by
  have h2:j< (beN k u).length:=by simpa[beN]using h
  have:=beN_get k u j h2
  show(beN k u)[j]=_
  rw[this]
  congr 4
  omega
theorem byte_at (v:Int) (p j:Nat) (hj:j< (be8 v).length) (hp:p= 256^(7-j)) (h0:0< p):Value.int .u8 (IntKind.u8.wrap (IntKind.u64.wrap v/(p:Int)))=B (be8 v)[j]:=by
 unfold B
 congr 1
 have e:(be8 v)[j]=UInt8.ofNat (u64 v/p% 256):=by rw[hp];exact beN_get 8 (u64 v) j hj
 rw[e,UInt8.toNat_ofNat',IntKind.wrap_u64,IntKind.wrap_u8]
 unfold u64
 have hm:0≤ v%18446744073709551616:= Int.emod_nonneg _ (by decide)
 generalize v%18446744073709551616= m at hm
 obtain⟨q,rfl⟩:=Int.eq_ofNat_of_zero_le hm
 rw[Int.toNat_natCast]
 have h1:((q:Int)/(p:Int))=((q/p: Nat):Int):=rfl
 rw[h1]
 generalize q/p= r
 omega
theorem grew_cell {w w':World} {g:Nat} {a a':Option Addr} {p:Addr} {v:Value} (hg:Grew g a a' w w') (hc:w.cell? p=some v) (hne:p.block≠ g) (ha:∀o s,a≠some ⟨p.block,o,s⟩):w'.cell? p=some v:=by
 rw[World.cell?_of_block (hg.keep p.block (World.block_lt_of_cell? w p hc) hne ha)];exact hc
set_option maxHeartbeats 4000000 in
theorem number_w (D g gx ox c:Nat) (a:Option Addr) (bs:List UInt8) (v:Int) (w:World) (h:Cw w D g a c bs) (hD:D≤ w.heap.size) (hx:w.cell? ⟨gx,ox,none⟩=some (.int .i64 v)) (hgx:gx≠ g) (hxa:∀o s,a≠some ⟨gx,o,s⟩) (hn:bs.length≤ 10000000):
 Calls Tryz.prog 109 #[.pointer (some ⟨g,0,none⟩),.pointer (some ⟨gx,ox,none⟩)] w (RetCw w D g a (bs++be8 v)):=by
 have HC:=Lib.hid h
 have HX:=Lib.hid (And.intro hx (And.intro hgx hxa))
 have HL:=Lib.hid hn
 have k2:=h.box.cell (j:=2) rfl
 clear h hx hgx hxa hn
 go_enter Tryz.func109,Tryz.ntmps109
 go_wp2
 clear k2
 go_loopw [7,29] (fun _ i wr=>∃(k:Nat) (a1:Option Addr) (c1:Nat),k≤8∧ i= .int .i64 k∧Hid (Cw wr D g a1 c1 (bs++(be8 v).take k))∧Hid (Grew g a a1 w wr)) (fun _ i _=>8- (intOf i).toNat)
 case atStart=>exact ⟨0,a,c,by omega,rfl,by rw[List.take_zero,List.append_nil];exact HC.out,Grew.refl _ _ _⟩
 case round=>
  obtain⟨k,a1,c1,hk,rfl,hcw,hgr⟩:=hrel
  have hDr:D≤ wr.heap.size:=Nat.le_trans hD hgr.out.size
  by_cases hlt:k< 8
  ·have hkb:k< (be8 v).length:=by rw[be8_length];exact hlt
   have HT:=Lib.hid (show bs++(be8 v).take (k+1)=(bs++(be8 v).take k)++[(be8 v)[k]'hkb] by rw[List.take_succ_eq_append_getElem hkb,List.append_assoc])
   have HLL:=Lib.hid (show(bs++(be8 v).take k).length≤10000008 by rw[List.length_append,List.length_take];have:=HL.out;omega)
   have hxr:=grew_cell hgr.out HX.out.1 HX.out.2.1 HX.out.2.2
   have HV:=Lib.hid (fun p hp h0=>byte_at v p k hkb hp h0)
   generalize(be8 v)[k]'hkb=x at HT HV
   generalize bs++(be8 v).take k=l1 at hcw HT HLL
   have k0:=hcw.out.box.cell (j:=0) rfl
   have k2:=hcw.out.box.cell (j:=2) rfl
   clear hkb
   have ea:g< wr.heap.size:=World.block_lt_of_cell? wr _ k0
   have eb:gx< wr.heap.size:=World.block_lt_of_cell? wr _ hxr
   have hll:=HLL.out
   rcases(show k=0∨ k=1∨ k=2∨ k=3∨ k=4∨ k=5∨ k=6∨ k=7 by omega)with rfl|rfl| rfl|rfl| rfl|rfl| rfl|rfl
   ·have HVV:=HV.out 72057594037927936 (by decide) (by decide)
    have HV2:=Lib.hid HVV
    clear HV HVV
    have hw0:IntKind.i64.wrap 0=0:= by decide
    have hw1:IntKind.i64.wrap 8=8:= by decide
    have hw2:IntKind.i64.wrap 16=16:= by decide
    have hw3:IntKind.i64.wrap 24=24:= by decide
    have hw4:IntKind.i64.wrap 32=32:= by decide
    have hw5:IntKind.i64.wrap 40=40:= by decide
    have hw6:IntKind.i64.wrap 48=48:= by decide
    have hw7:IntKind.i64.wrap 56=56:= by decide
    go_upto_region 11 with(fail)
    go_region_law (first|(refine step_near el_bytes rfl (.tmp 36) (.tmp 46) rfl D a1 l1.length c1 (l1.map B) rfl (Can.drew (hcw.out.can.alloc _)) (some ⟨wr.heap.size,0,none⟩) 1 1 [B x] rfl rfl (by rw[←HV2.out];exact Row.drew (Row.new _ _ _ _)) (by intro u hu;simp at hu;subst hu;rfl) (by omega) (by simp;omega) (by decide) ?_;intro a2 c2 w2 hcan2 hg2 hn2 hown2;have hst:=Cw.step (ns:=[x]) hcw.out (((Below.refl _ _).alloc (Nat.le_refl _) _).drew) hDr hcan2 hg2 hn2 (own_block hown2) (own_lt hown2);have q0:=hst.1.cell (j:=0) rfl;have z0:=hst.1.froz (j:=0) (show 0<3 by decide);have HST:=Lib.hid hst.2;clear hst hcan2 hg2 hn2 hown2))
    all_goals
     clear q0 z0
     go_wp2_with fail
     exact⟨⟨1,a2,c2,by omega,rfl,by have h1:=HT.out;simp only[Nat.zero_add,Nat.reduceAdd]at h1;rw[h1];exact HST.out.1,hgr.out.trans HST.out.2⟩,by simp[intOf]⟩
   ·have HVV:=HV.out 281474976710656 (by decide) (by decide)
    have HV2:=Lib.hid HVV
    clear HV HVV
    have hw0:IntKind.i64.wrap 0=0:= by decide
    have hw1:IntKind.i64.wrap 8=8:= by decide
    have hw2:IntKind.i64.wrap 16=16:= by decide
    have hw3:IntKind.i64.wrap 24=24:= by decide
    have hw4:IntKind.i64.wrap 32=32:= by decide
    have hw5:IntKind.i64.wrap 40=40:= by decide
    have hw6:IntKind.i64.wrap 48=48:= by decide
    have hw7:IntKind.i64.wrap 56=56:= by decide
    go_upto_region 11 with(fail)
    go_region_law (first|(refine step_near el_bytes rfl (.tmp 36) (.tmp 46) rfl D a1 l1.length c1 (l1.map B) rfl (Can.drew (hcw.out.can.alloc _)) (some ⟨wr.heap.size,0,none⟩) 1 1 [B x] rfl rfl (by rw[←HV2.out];exact Row.drew (Row.new _ _ _ _)) (by intro u hu;simp at hu;subst hu;rfl) (by omega) (by simp;omega) (by decide) ?_;intro a2 c2 w2 hcan2 hg2 hn2 hown2;have hst:=Cw.step (ns:=[x]) hcw.out (((Below.refl _ _).alloc (Nat.le_refl _) _).drew) hDr hcan2 hg2 hn2 (own_block hown2) (own_lt hown2);have q0:=hst.1.cell (j:=0) rfl;have z0:=hst.1.froz (j:=0) (show 0<3 by decide);have HST:=Lib.hid hst.2;clear hst hcan2 hg2 hn2 hown2))
    all_goals
     clear q0 z0
     go_wp2_with fail
     exact⟨⟨2,a2,c2,by omega,rfl,by have h1:=HT.out;simp only[Nat.zero_add,Nat.reduceAdd]at h1;rw[h1];exact HST.out.1,hgr.out.trans HST.out.2⟩,by simp[intOf]⟩
   ·have HVV:=HV.out 1099511627776 (by decide) (by decide)
    have HV2:=Lib.hid HVV
    clear HV HVV
    have hw0:IntKind.i64.wrap 0=0:= by decide
    have hw1:IntKind.i64.wrap 8=8:= by decide
    have hw2:IntKind.i64.wrap 16=16:= by decide
    have hw3:IntKind.i64.wrap 24=24:= by decide
    have hw4:IntKind.i64.wrap 32=32:= by decide
    have hw5:IntKind.i64.wrap 40=40:= by decide
    have hw6:IntKind.i64.wrap 48=48:= by decide
    have hw7:IntKind.i64.wrap 56=56:= by decide
    go_upto_region 11 with(fail)
    go_region_law (first|(refine step_near el_bytes rfl (.tmp 36) (.tmp 46) rfl D a1 l1.length c1 (l1.map B) rfl (Can.drew (hcw.out.can.alloc _)) (some ⟨wr.heap.size,0,none⟩) 1 1 [B x] rfl rfl (by rw[←HV2.out];exact Row.drew (Row.new _ _ _ _)) (by intro u hu;simp at hu;subst hu;rfl) (by omega) (by simp;omega) (by decide) ?_;intro a2 c2 w2 hcan2 hg2 hn2 hown2;have hst:=Cw.step (ns:=[x]) hcw.out (((Below.refl _ _).alloc (Nat.le_refl _) _).drew) hDr hcan2 hg2 hn2 (own_block hown2) (own_lt hown2);have q0:=hst.1.cell (j:=0) rfl;have z0:=hst.1.froz (j:=0) (show 0<3 by decide);have HST:=Lib.hid hst.2;clear hst hcan2 hg2 hn2 hown2))
    all_goals
     clear q0 z0
     go_wp2_with fail
     exact⟨⟨3,a2,c2,by omega,rfl,by have h1:=HT.out;simp only[Nat.zero_add,Nat.reduceAdd]at h1;rw[h1];exact HST.out.1,hgr.out.trans HST.out.2⟩,by simp[intOf]⟩
   ·have HVV:=HV.out 4294967296 (by decide) (by decide)
    have HV2:=Lib.hid HVV
    clear HV HVV
    have hw0:IntKind.i64.wrap 0=0:= by decide
    have hw1:IntKind.i64.wrap 8=8:= by decide
    have hw2:IntKind.i64.wrap 16=16:= by decide
    have hw3:IntKind.i64.wrap 24=24:= by decide
    have hw4:IntKind.i64.wrap 32=32:= by decide
    have hw5:IntKind.i64.wrap 40=40:= by decide
    have hw6:IntKind.i64.wrap 48=48:= by decide
    have hw7:IntKind.i64.wrap 56=56:= by decide
    go_upto_region 11 with(fail)
    go_region_law (first|(refine step_near el_bytes rfl (.tmp 36) (.tmp 46) rfl D a1 l1.length c1 (l1.map B) rfl (Can.drew (hcw.out.can.alloc _)) (some ⟨wr.heap.size,0,none⟩) 1 1 [B x] rfl rfl (by rw[←HV2.out];exact Row.drew (Row.new _ _ _ _)) (by intro u hu;simp at hu;subst hu;rfl) (by omega) (by simp;omega) (by decide) ?_;intro a2 c2 w2 hcan2 hg2 hn2 hown2;have hst:=Cw.step (ns:=[x]) hcw.out (((Below.refl _ _).alloc (Nat.le_refl _) _).drew) hDr hcan2 hg2 hn2 (own_block hown2) (own_lt hown2);have q0:=hst.1.cell (j:=0) rfl;have z0:=hst.1.froz (j:=0) (show 0<3 by decide);have HST:=Lib.hid hst.2;clear hst hcan2 hg2 hn2 hown2))
    all_goals
     clear q0 z0
     go_wp2_with fail
     exact⟨⟨4,a2,c2,by omega,rfl,by have h1:=HT.out;simp only[Nat.zero_add,Nat.reduceAdd]at h1;rw[h1];exact HST.out.1,hgr.out.trans HST.out.2⟩,by simp[intOf]⟩
   ·have HVV:=HV.out 16777216 (by decide) (by decide)
    have HV2:=Lib.hid HVV
    clear HV HVV
    have hw0:IntKind.i64.wrap 0=0:= by decide
    have hw1:IntKind.i64.wrap 8=8:= by decide
    have hw2:IntKind.i64.wrap 16=16:= by decide
    have hw3:IntKind.i64.wrap 24=24:= by decide
    have hw4:IntKind.i64.wrap 32=32:= by decide
    have hw5:IntKind.i64.wrap 40=40:= by decide
    have hw6:IntKind.i64.wrap 48=48:= by decide
    have hw7:IntKind.i64.wrap 56=56:= by decide
    go_upto_region 11 with(fail)
    go_region_law (first|(refine step_near el_bytes rfl (.tmp 36) (.tmp 46) rfl D a1 l1.length c1 (l1.map B) rfl (Can.drew (hcw.out.can.alloc _)) (some ⟨wr.heap.size,0,none⟩) 1 1 [B x] rfl rfl (by rw[←HV2.out];exact Row.drew (Row.new _ _ _ _)) (by intro u hu;simp at hu;subst hu;rfl) (by omega) (by simp;omega) (by decide) ?_;intro a2 c2 w2 hcan2 hg2 hn2 hown2;have hst:=Cw.step (ns:=[x]) hcw.out (((Below.refl _ _).alloc (Nat.le_refl _) _).drew) hDr hcan2 hg2 hn2 (own_block hown2) (own_lt hown2);have q0:=hst.1.cell (j:=0) rfl;have z0:=hst.1.froz (j:=0) (show 0<3 by decide);have HST:=Lib.hid hst.2;clear hst hcan2 hg2 hn2 hown2))
    all_goals
     clear q0 z0
     go_wp2_with fail
     exact⟨⟨5,a2,c2,by omega,rfl,by have h1:=HT.out;simp only[Nat.zero_add,Nat.reduceAdd]at h1;rw[h1];exact HST.out.1,hgr.out.trans HST.out.2⟩,by simp[intOf]⟩
   ·have HVV:=HV.out 65536 (by decide) (by decide)
    have HV2:=Lib.hid HVV
    clear HV HVV
    have hw0:IntKind.i64.wrap 0=0:= by decide
    have hw1:IntKind.i64.wrap 8=8:= by decide
    have hw2:IntKind.i64.wrap 16=16:= by decide
    have hw3:IntKind.i64.wrap 24=24:= by decide
    have hw4:IntKind.i64.wrap 32=32:= by decide
    have hw5:IntKind.i64.wrap 40=40:= by decide
    have hw6:IntKind.i64.wrap 48=48:= by decide
    have hw7:IntKind.i64.wrap 56=56:= by decide
    go_upto_region 11 with(fail)
    go_region_law (first|(refine step_near el_bytes rfl (.tmp 36) (.tmp 46) rfl D a1 l1.length c1 (l1.map B) rfl (Can.drew (hcw.out.can.alloc _)) (some ⟨wr.heap.size,0,none⟩) 1 1 [B x] rfl rfl (by rw[←HV2.out];exact Row.drew (Row.new _ _ _ _)) (by intro u hu;simp at hu;subst hu;rfl) (by omega) (by simp;omega) (by decide) ?_;intro a2 c2 w2 hcan2 hg2 hn2 hown2;have hst:=Cw.step (ns:=[x]) hcw.out (((Below.refl _ _).alloc (Nat.le_refl _) _).drew) hDr hcan2 hg2 hn2 (own_block hown2) (own_lt hown2);have q0:=hst.1.cell (j:=0) rfl;have z0:=hst.1.froz (j:=0) (show 0<3 by decide);have HST:=Lib.hid hst.2;clear hst hcan2 hg2 hn2 hown2))
    all_goals
     clear q0 z0
     go_wp2_with fail
     exact⟨⟨6,a2,c2,by omega,rfl,by have h1:=HT.out;simp only[Nat.zero_add,Nat.reduceAdd]at h1;rw[h1];exact HST.out.1,hgr.out.trans HST.out.2⟩,by simp[intOf]⟩
   ·have HVV:=HV.out 256 (by decide) (by decide)
    have HV2:=Lib.hid HVV
    clear HV HVV
    have hw0:IntKind.i64.wrap 0=0:= by decide
    have hw1:IntKind.i64.wrap 8=8:= by decide
    have hw2:IntKind.i64.wrap 16=16:= by decide
    have hw3:IntKind.i64.wrap 24=24:= by decide
    have hw4:IntKind.i64.wrap 32=32:= by decide
    have hw5:IntKind.i64.wrap 40=40:= by decide
    have hw6:IntKind.i64.wrap 48=48:= by decide
    have hw7:IntKind.i64.wrap 56=56:= by decide
    go_upto_region 11 with(fail)
    go_region_law (first|(refine step_near el_bytes rfl (.tmp 36) (.tmp 46) rfl D a1 l1.length c1 (l1.map B) rfl (Can.drew (hcw.out.can.alloc _)) (some ⟨wr.heap.size,0,none⟩) 1 1 [B x] rfl rfl (by rw[←HV2.out];exact Row.drew (Row.new _ _ _ _)) (by intro u hu;simp at hu;subst hu;rfl) (by omega) (by simp;omega) (by decide) ?_;intro a2 c2 w2 hcan2 hg2 hn2 hown2;have hst:=Cw.step (ns:=[x]) hcw.out (((Below.refl _ _).alloc (Nat.le_refl _) _).drew) hDr hcan2 hg2 hn2 (own_block hown2) (own_lt hown2);have q0:=hst.1.cell (j:=0) rfl;have z0:=hst.1.froz (j:=0) (show 0<3 by decide);have HST:=Lib.hid hst.2;clear hst hcan2 hg2 hn2 hown2))
    all_goals
     clear q0 z0
     go_wp2_with fail
     exact⟨⟨7,a2,c2,by omega,rfl,by have h1:=HT.out;simp only[Nat.zero_add,Nat.reduceAdd]at h1;rw[h1];exact HST.out.1,hgr.out.trans HST.out.2⟩,by simp[intOf]⟩
   ·have HVV:=HV.out 1 (by decide) (by decide)
    have HV2:=(show Hid (Value.int .u8 (IntKind.u8.wrap (IntKind.u64.wrap v))=B x) by show _=_;rw[←HVV];simp)
    clear HV HVV
    have hw0:IntKind.i64.wrap 0=0:= by decide
    have hw1:IntKind.i64.wrap 8=8:= by decide
    have hw2:IntKind.i64.wrap 16=16:= by decide
    have hw3:IntKind.i64.wrap 24=24:= by decide
    have hw4:IntKind.i64.wrap 32=32:= by decide
    have hw5:IntKind.i64.wrap 40=40:= by decide
    have hw6:IntKind.i64.wrap 48=48:= by decide
    have hw7:IntKind.i64.wrap 56=56:= by decide
    go_upto_region 11 with(fail)
    go_region_law (first|(refine step_near el_bytes rfl (.tmp 36) (.tmp 46) rfl D a1 l1.length c1 (l1.map B) rfl (Can.drew (hcw.out.can.alloc _)) (some ⟨wr.heap.size,0,none⟩) 1 1 [B x] rfl rfl (by rw[←HV2.out];exact Row.drew (Row.new _ _ _ _)) (by intro u hu;simp at hu;subst hu;rfl) (by omega) (by simp;omega) (by decide) ?_;intro a2 c2 w2 hcan2 hg2 hn2 hown2;have hst:=Cw.step (ns:=[x]) hcw.out (((Below.refl _ _).alloc (Nat.le_refl _) _).drew) hDr hcan2 hg2 hn2 (own_block hown2) (own_lt hown2);have q0:=hst.1.cell (j:=0) rfl;have z0:=hst.1.froz (j:=0) (show 0<3 by decide);have HST:=Lib.hid hst.2;clear hst hcan2 hg2 hn2 hown2))
    all_goals
     clear q0 z0
     go_wp2_with fail
     exact⟨⟨8,a2,c2,by omega,rfl,by have h1:=HT.out;simp only[Nat.zero_add,Nat.reduceAdd]at h1;rw[h1];exact HST.out.1,hgr.out.trans HST.out.2⟩,by simp[intOf]⟩
  ·obtain rfl:k= 8:=by omega
   go_wp2
   go_end0
   exact⟨a1,c1,rfl,by have h:=hcw.out;rw[List.take_of_length_le (by rw[be8_length];exact Nat.le_refl _)]at h;exact h,hgr.out⟩
end Go.Proofs.YtfdmhpohfjbpfaaGreat
