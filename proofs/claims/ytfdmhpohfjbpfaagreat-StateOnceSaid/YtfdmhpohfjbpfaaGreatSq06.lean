import Derived.WalkArith
import Derived.Defers
import Derived.Recover
import Derived.Test.YtfdmhpohfjbpfaaGreatSq05
set_option linter.unusedVariables false
set_option linter.unusedSimpArgs false
namespace Go.Proofs.YtfdmhpohfjbpfaaGreat
open Go.ChangeShapes Go.WideShapes Go.ChangeAt Go.RowKit
set_option maxRecDepth 100000
structure Sli where
 a:Option Addr
 n:Nat
 c:Nat
structure Raw where
 term:Int
 stamp:Int
 next:Int
 ten:Sli
 lea:Sli
 ses:Sli
 dsk:Sli
abbrev Raw.cells (r:Raw):List Value:=[.int .i64 r.term,.int .i64 r.stamp,.int .i64 r.next,.slice r.ten.a r.ten.n r.ten.c,.slice r.lea.a r.lea.n r.lea.c,.slice r.ses.a r.ses.n r.ses.c,.slice r.dsk.a r.dsk.n r.dsk.c]
abbrev Raw.agg (r:Raw):Value:= .agg #[.int .i64 r.term,.int .i64 r.stamp,.int .i64 r.next,.slice r.ten.a r.ten.n r.ten.c,.slice r.lea.a r.lea.n r.lea.c,.slice r.ses.a r.ses.n r.ses.c,.slice r.dsk.a r.dsk.n r.dsk.c]
def laySt:Lay Tryz.prog 27 Raw:=Lay.struct Raw.cells 7 120 (fun _=>rfl) (by decide) (by decide) (fun x u hu=>by simp at hu;rcases hu with h|h| h|h| h|h| h<;>subst h<;>rfl) (by kernel_rfl) _ Tryz.underlying27 rfl
theorem cellsSt {w:World} {b o:Nat} {t:Raw} (h:w.rangeAt b o t.cells):w.cell? ⟨b,o,none⟩=some (.int .i64 t.term)∧w.cell? ⟨b,o+1,none⟩=some (.int .i64 t.stamp)∧w.cell? ⟨b,o+2,none⟩=some (.int .i64 t.next)∧
 w.cell? ⟨b,o+3,none⟩=some (.slice t.ten.a t.ten.n t.ten.c)∧w.cell? ⟨b,o+4,none⟩=some (.slice t.lea.a t.lea.n t.lea.c)∧w.cell? ⟨b,o+5,none⟩=some (.slice t.ses.a t.ses.n t.ses.c)∧w.cell? ⟨b,o+6,none⟩=some (.slice t.dsk.a t.dsk.n t.dsk.c):=
 ⟨h 0 _ rfl,h 1 _ rfl,h 2 _ rfl,h 3 _ rfl,h 4 _ rfl,h 5 _ rfl,h 6 _ rfl⟩
theorem cellsSt0 {w:World} {b:Nat} {t:Raw} (h:w.rangeAt b 0 t.cells):w.cell? ⟨b,0,none⟩=some (.int .i64 t.term)∧w.cell? ⟨b,1,none⟩=some (.int .i64 t.stamp)∧w.cell? ⟨b,2,none⟩=some (.int .i64 t.next)∧
 w.cell? ⟨b,3,none⟩=some (.slice t.ten.a t.ten.n t.ten.c)∧w.cell? ⟨b,4,none⟩=some (.slice t.lea.a t.lea.n t.lea.c)∧w.cell? ⟨b,5,none⟩=some (.slice t.ses.a t.ses.n t.ses.c)∧w.cell? ⟨b,6,none⟩=some (.slice t.dsk.a t.dsk.n t.dsk.c):=by
 have:=cellsSt h
 simp only[Nat.zero_add]at this
 exact this
structure SliAt {P:Program} {e:TypeId} {α:Type} (L:Lay P e α) (w:World) (B:Nat) (s:Sli) (xs:List α):Prop where
 len:xs.length= s.n
 le:s.n≤ s.c
 nil:s.a= none→s.c= 0
 near:Near B none s.a
 row:LRow L w s.a xs
structure OwnSli {P:Program} {e:TypeId} {α:Type} (L:Lay P e α) (w:World) (B:Nat) (s:Sli) (xs:List α):Prop where
 can:Can w B e L.size s.a s.n s.c (xs.flatMap L.cells)
 own:0< xs.length→w.ownsRow B e L.size (.slice s.a s.n s.c) s.n (xs.flatMap L.cells)
structure DskAt (w:World) (B:Nat) (s:Sli) (xs:List Desk):Prop extends SliAt layDsk w B s xs where
 own:0< B→OwnSli layDsk w B s xs
 lt:0< B→∀x o q,s.a=some ⟨x,o,q⟩→x< w.heap.size
structure StAt (w:World) (B:Nat) (r:Raw) (s:St):Prop where
 term:r.term= s.term
 stamp:r.stamp= s.stamp
 next:r.next= s.next
 ten:SliAt layTen w B r.ten s.tens
 lea:SliAt layLea w B r.lea s.leas
 ses:SliAt laySes w B r.ses s.sess
 dsk:DskAt w B r.dsk s.dsks
section
variable {P:Program} {e:TypeId} {α:Type} {L:Lay P e α}
theorem SliAt.below {w w':World} {B:Nat} {s:Sli} {xs:List α} (h:SliAt L w B s xs) (hb:Below w.heap.size w w'):SliAt L w' B s xs:=⟨h.len,h.le,h.nil,h.near,h.row.below hb⟩
theorem SliAt.mono {w:World} {B B':Nat} {s:Sli} {xs:List α} (h:SliAt L w B s xs) (hB:B'≤ B):SliAt L w B' s xs:=⟨h.len,h.le,h.nil,h.near.mono hB,h.row⟩
theorem LRow.keep {w w':World} {a:Option Addr} {xs:List α} {g:Nat} (h:LRow L w a xs) (hk:∀k,k<w.heap.size→ k≠g→ w'.heap[k]? =w.heap[k]?) (hn:∀b o s,a=some ⟨b,o,s⟩→b≠ g):LRow L w' a xs:=by
 by_cases h0:xs.flatMap L.cells=[]
 ·exact .inl h0
 ·rcases h with h|⟨b,o,rfl,hc⟩
  ·exact absurd h h0
  ·have hlt:=Row.lt (.inr ⟨b,o,rfl,hc⟩) h0
   exact .inr ⟨b,o,rfl,fun i hi=>by rw[World.cell?_of_block (w:=w) (hk b hlt (hn b o _ rfl))];exact hc i hi⟩
theorem SliAt.keep {w w':World} {B:Nat} {s:Sli} {xs:List α} {g:Nat} (h:SliAt L w B s xs) (hk:∀k,k<w.heap.size→ k≠g→ w'.heap[k]? =w.heap[k]?) (hg:g< B):SliAt L w' B s xs:=
 ⟨h.len,h.le,h.nil,h.near,h.row.keep hk (fun b o s hs=>by rcases h.near b o s hs with h1|⟨_,_,h1⟩;omega;cases h1)⟩
end
theorem own_base {w:World} {B B':Nat} {e:TypeId} {size:Nat} {v:Value} {n:Nat} {xs:List Value} (h:w.ownsRow B e size v n xs) (hB:B'≤ B):w.ownsRow B' e size v n xs:=by
 obtain⟨h1,h2⟩:=h
 refine⟨h1,?_⟩
 rcases h2 with h2|⟨g,cap,cur,h3,h4,h5⟩
 ·exact .inl h2
 ·exact .inr ⟨g,cap,cur,h3,by omega,h5⟩
theorem own_same {w w':World} {B:Nat} {e:TypeId} {size:Nat} {v:Value} {n:Nat} {xs:List Value} (h:w.ownsRow B e size v n xs) (hk:∀g cap,v= .slice (some ⟨g,0,none⟩) n cap→B≤ g→g< w.heap.size→w'.heap[g]? =w.heap[g]?):w'.ownsRow B e size v n xs:=by
 obtain⟨h1,h2⟩:=h
 refine⟨h1,?_⟩
 rcases h2 with h2|⟨g,cap,cur,h3,h4,h5,h6⟩
 ·exact .inl h2
 ·refine .inr ⟨g,cap,cur,h3,h4,?_,h6⟩
  rw[hk g cap h3 h4 (Array.getElem?_eq_some_iff.1 h5).1];exact h5
section
variable {P:Program} {e:TypeId} {α:Type} {L:Lay P e α} {w w':World} {B B0:Nat} {s:Sli} {xs:List α}
theorem OwnSli.base (h:OwnSli L w B s xs) (hB:B0≤ B):OwnSli L w B0 s xs:=⟨⟨h.can.1,h.can.2.1,h.can.2.2.imp id (fun h=>own_base h hB)⟩,fun h0=>own_base (h.own h0) hB⟩
theorem OwnSli.same (h:OwnSli L w B s xs) (hr:LRow L w' s.a xs) (hk:∀g,s.a=some ⟨g,0,none⟩→B≤ g→g< w.heap.size→w'.heap[g]? =w.heap[g]?):OwnSli L w' B s xs:=by
 have hk':∀g cap,Value.slice s.a s.n s.c= .slice (some ⟨g,0,none⟩) s.n cap→B≤ g→g< w.heap.size→w'.heap[g]? =w.heap[g]?:=fun g cap hv=>by
  simp only[Value.slice.injEq]at hv
  exact hk g hv.1
 exact⟨⟨h.can.1,h.can.2.1,h.can.2.2.imp (fun h1=>⟨h1.1,hr⟩) (fun h1=>own_same h1 hk')⟩,fun h0=>own_same (h.own h0) hk'⟩
end
section
variable {w w':World} {B B':Nat} {s:Sli} {xs:List Desk}
theorem DskAt.same (h:DskAt w B s xs) (h2:SliAt layDsk w' B s xs) (hs:w.heap.size≤ w'.heap.size) (hk:∀g,0<B→ s.a=some ⟨g,0,none⟩→B≤ g→g< w.heap.size→w'.heap[g]? =w.heap[g]?):DskAt w' B s xs:=⟨h2,fun h0=>(h.own h0).same h2.row fun g=>hk g h0,fun h0 x o q e=>Nat.lt_of_lt_of_le (h.lt h0 x o q e) hs⟩
theorem DskAt.below (h:DskAt w B s xs) (hb:Below w.heap.size w w'):DskAt w' B s xs:=h.same (h.toSliAt.below hb) hb.size fun g _ _ _ h1=>hb.block g h1
theorem DskAt.mono (h:DskAt w B s xs) (hB:B'≤ B):DskAt w B' s xs:=⟨h.toSliAt.mono hB,fun h0=>(h.own (by omega)).base hB,fun h0=>h.lt (by omega)⟩
theorem DskAt.keep {g:Nat} (h:DskAt w B s xs) (hk:∀k,k<w.heap.size→ k≠g→ w'.heap[k]? =w.heap[k]?) (hs:w.heap.size≤ w'.heap.size) (hg:g< B):DskAt w' B s xs:=h.same (h.toSliAt.keep hk hg) hs fun g' _ _ h1 h2=>hk g' h2 (by omega)
end
theorem StAt.below {w w':World} {B:Nat} {r:Raw} {s:St} (h:StAt w B r s) (hb:Below w.heap.size w w'):StAt w' B r s:=⟨h.term,h.stamp,h.next,h.ten.below hb,h.lea.below hb,h.ses.below hb,h.dsk.below hb⟩
theorem StAt.mono {w:World} {B B':Nat} {r:Raw} {s:St} (h:StAt w B r s) (hB:B'≤ B):StAt w B' r s:=⟨h.term,h.stamp,h.next,h.ten.mono hB,h.lea.mono hB,h.ses.mono hB,h.dsk.mono hB⟩
theorem StAt.keep {w w':World} {B:Nat} {r:Raw} {s:St} {g:Nat} (h:StAt w B r s) (hk:∀k,k<w.heap.size→ k≠g→ w'.heap[k]? =w.heap[k]?) (hs:w.heap.size≤ w'.heap.size) (hg:g< B):StAt w' B r s:=
 ⟨h.term,h.stamp,h.next,h.ten.keep hk hg,h.lea.keep hk hg,h.ses.keep hk hg,h.dsk.keep hk hs hg⟩
theorem StAt.trow {w:World} {B:Nat} {r:Raw} {s:St} (h:StAt w B r s):TRow w r.ten.a s.tens:=h.ten.row
theorem setCells_keep (g:Nat):∀(vs:List Value) (o:Nat) (w:World) (k:Nat),k≠g→ (w.setCells g o vs).heap[k]? =w.heap[k]?
 |[],_,_,_,_=>rfl
 |v:: vs,o,w,k,h=>by
  rw[World.setCells,setCells_keep g vs (o+1) _ k h]
  exact Below.heap_setCell _ _ _ _ (fun e=>h e)
theorem wf_sm {n:Int} (h1: -1000000000000≤ n) (h2:n≤ 1000000000000):(Lit.int .i64 n).wf=true:= Go.WalkArith.wf_i64 ⟨by omega,by omega⟩
theorem mid_alloc' {w w':World} {o:Obj} (hb:Below (w.alloc o).heap.size (w.alloc o) w'):Below w.heap.size w w':=((Below.refl w.heap.size w).alloc (Nat.le_refl _) o).trans (hb.mono (by simp))
theorem wpList_strip {P:Program} {ops:Array Oper} {Q:Exit→ Act→World→ Prop} {a:Act} {w:World} {rest:List Oper} {o:Oper}
 (hw:Region.wanted o (yielded ops a.tmps)=true) (h:wpList P ops Q ({o with guard:=none}::rest) a w):wpList P ops Q (o::rest) a w:=by
 unfold wpList at h ⊢
 rw[if_pos hw]
 rw[if_pos (by rfl)]at h
 exact h
def RetSt (w:World) (B:Nat) (s:St) (e:Ending) (w':World):Prop:= ∃r,e= .returned (Raw.agg r)∧StAt w' B r s∧Below w.heap.size w w'
theorem one_slice {H:Type} {enc:TypeId× Value→H} {P:Program} {w:World} {t e:TypeId} {v:Value} (ht:P.underlying t=some (.slice e)) (h:Rd enc P w t [v]):∃a n c,v= .slice a n c:=by
 rcases h.slice ht with h1|⟨a,n,c,h1,_⟩
 ·simp at h1;exact⟨_,_,_,h1⟩
 ·simp at h1;exact⟨_,_,_,h1⟩
end Go.Proofs.YtfdmhpohfjbpfaaGreat
namespace Go.Proofs.YtfdmhpohfjbpfaaGreat
open Go.ChangeShapes Go.WideShapes Go.ChangeAt Go.RowKit Go.Maps
set_option maxRecDepth 100000
def keyI:KeyKind Tryz.prog 3 Int where
 keyed:=Maps.int_keyed Tryz.underlying3
 enc n:= .int .i64 n
 kl n:= .int .i64 n
 good n:=(Lit.int .i64 n).wf=true
 key _ h:=keyOf_int_mk Tryz.underlying3 h
 inj _ _ h:=by simpa using h
theorem zero_i (w:World):(zeroValue 3).run Tryz.prog w= .ok (.int .i64 0) w:=by rfl
structure OutMap (w:World) (B b n:Nat) (f:Int→ Option Int) (ls:List Lease):Prop where
 map:MapI keyI 3 w b n f
 out:∀id,(f id).getD 0=outL ls id
 base:B≤ b
 small:n≤ 1000
theorem OutMap.below {w w':World} {B b n:Nat} {f:Int→ Option Int} {ls:List Lease} (h:OutMap w B b n f ls) (hb:Below w.heap.size w w'):OutMap w' B b n f ls:=⟨h.map.below hb h.map.lt,h.out,h.base,h.small⟩
def RetOuts (w:World) (ls:List Lease) (e:Ending) (w':World):Prop:= ∃b n f,e= .returned (.map (some b))∧OutMap w' w.heap.size b n f ls∧Below w.heap.size w w'
set_option maxHeartbeats 4000000 in
theorem outs_any (ls:List Lease) (r:Raw) (w:World) (hl:ls.length= r.lea.n) (h64:ls.length≤ 1000) (hf:Fits ls) (hr:LRow layLea w r.lea.a ls):
 Calls Tryz.prog 58 #[r.agg] w (RetOuts w ls):=by
 obtain⟨term,stamp,next,⟨a1,n1,c1⟩,⟨a,n,c⟩,⟨a3,n3,c3⟩,⟨a4,n4,c4⟩⟩:=r
 simp only at hl hr
 subst hl
 have hmax:ls.length< maxLen:=by unfold maxLen;omega
 have hmm:= @run_makeMap Tryz.prog
 have HF:=Lib.hid hf
 have HRG:=Lib.hid (fun id (k:Nat) (hk:k≤ ls.length)=>outL_range id (hf.sub (m:=ls.take k) (fun x hx=>List.mem_of_mem_take hx)))
 clear hf
 go_enter Tryz.func58,Tryz.ntmps58
 go_wp2
 go_loopw [10] (fun i wr=>∃k: Nat,∃f,k≤ls.length∧ i= .int .i64 k∧Hid (∀id,(f id).getD 0=outL (ls.take k) id)∧Hid (MapI keyI 3 wr (w.heap.size+1) k f)∧Below w.heap.size w wr) (fun i _=>ls.length- (intOf i).toNat)
 case atStart=>exact ⟨0,fun _=>none,by omega,rfl,fun _=>rfl,by
  have h:=MapI.made (K:=keyI) (e:=3) (w.alloc (.cells #[.int .i64 term,.int .i64 stamp,.int .i64 next,.slice a1 n1 c1,.slice a ls.length c,.slice a3 n3 c3,.slice a4 n4 c4] 27))
  rw[World.size_alloc]at h
  exact h,belo⟩
 case round=>
  obtain⟨k,f,hk,rfl,hp,hm,hb⟩:=hrel
  by_cases hlt:k< ls.length
  ·obtain⟨b,o,rfl,hcs⟩:=atLea hr hlt
   have hx:=hcs _ hb
   have HT:=Lib.hid (fun id=>outL_take hlt id)
   have HX:=Lib.hid (HF.out ls[k] (List.getElem_mem hlt))
   have HW:=Lib.hid (show(Lit.int .i64 ls[k].tenant).wf=true from wf_sm (by have:=HX.out;omega) (by have:=HX.out;omega))
   have HR1:=Lib.hid (HRG.out ls[k].tenant k hk)
   have hlen:(ls.take k).length=k:= by simp;omega
   rw[hlen]at HR1
   generalize ls[k]=x at hx HT HW HX HR1
   have hmb:=hm.out.lt
   clear hcs
   have hv:∃z: Int,outL (ls.take k) x.tenant=z:= ⟨_,rfl⟩
   obtain⟨z,hz⟩:=hv
   have HZ:=Lib.hid hz
   have hz1:0≤ z:=by rw[←hz];exact HR1.out.1
   have hz2:z≤ 1000000000:=by have:=HR1.out.2;omega
   obtain⟨_,_,hs1,hs2,hs3,hs4⟩:=HX.out
   have HFZ:Hid ((f x.tenant).getD 0=z):=by show _=_;rw[hp.out];exact hz
   clear hz
   go_wp2_with(first|(refine wpList_getI keyI Tryz.underlying100 Tryz.underlying3 zero_i rfl (.tmp 14) (.tmp 16) rfl (w.heap.size+1) k f rfl (hm.out.alloc _) x.tenant HW.out rfl ?_;rw[HFZ.out])|(refine wpList_putI keyI Tryz.underlying100 Tryz.underlying3 rfl (.tmp 14) (.tmp 16) (.tmp 23) rfl (w.heap.size+1) k f rfl (hm.out.alloc _) (by omega) x.tenant HW.out rfl (z+(x.size-x.spent)) (by go_num) (wf_sm (by omega) (by omega)) ?_;intro w3 hm3 hg3))
   refine⟨⟨k+1,_,by omega,by go_num,fun id=> ?_,hm3,(hb.alloc hb.size _).grown hg3 (by have:=hb.size;simp;omega) (fun _ h=>by cases h;exact Nat.le_succ _)⟩,by simp[intOf];omega⟩
   rw[HT.out]
   unfold upd
   by_cases e:id= x.tenant
   ·subst e;rw[if_pos rfl,if_pos rfl,HZ.out];rfl
   ·rw[if_neg e,if_neg (fun h=>e h.symm),hp.out];omega
  ·obtain rfl:k= ls.length:=by omega
   have HT:Hid (∀id,(f id).getD 0=outL ls id):=fun id=>by rw[hp.out,List.take_length]
   go_wp2
   go_returns
   exact⟨w.heap.size+1,ls.length,f,rfl,⟨hm.out,HT.out,Nat.le_succ _,h64⟩,hb⟩
end Go.Proofs.YtfdmhpohfjbpfaaGreat
namespace Go.Proofs.YtfdmhpohfjbpfaaGreat
open Go.ChangeShapes Go.WideShapes Go.ChangeAt Go.RowKit
set_option maxRecDepth 100000
structure Mid (B E:Nat) (w w':World):Prop where
 size:w.heap.size≤ w'.heap.size
 keep:∀k,B≤k→ k<E→ w'.heap[k]? =w.heap[k]?
theorem Mid.refl (B E:Nat) (w:World):Mid B E w w:=⟨Nat.le_refl _,fun _ _ _=>rfl⟩
theorem Mid.trans {B E:Nat} {w w' w'':World} (h:Mid B E w w') (h2:Mid B E w' w''):Mid B E w w'':=⟨Nat.le_trans h.size h2.size,fun k h1 h3=>(h2.keep k h1 h3).trans (h.keep k h1 h3)⟩
theorem Mid.below {B E E':Nat} {w w':World} (h:Below E' w w') (hE:E≤ E'):Mid B E w w':=⟨h.size,fun k _ h1=>h.block k (by omega)⟩
theorem Mid.next {B E E':Nat} {w w' w'':World} (h:Mid B E w w') (h2:Below E' w' w'') (hE:E≤ E'):Mid B E w w'':=h.trans (.below h2 hE)
theorem Mid.setCell {B E:Nat} {w w':World} (h:Mid B E w w') (p:Addr) (v:Value) (hp:p.block< B∨E≤ p.block):Mid B E w (w'.setCell p v):=
 h.trans ⟨by simp,fun k h1 h2=>Below.heap_setCell _ _ _ _ (by omega)⟩
theorem Mid.other {B E:Nat} {w w' w'':World} {g:Nat} (h:Mid B E w w') (hk:∀k,k≠g→ w''.heap[k]? =w'.heap[k]?) (hs:w''.heap.size= w'.heap.size) (hg:g< B∨E≤ g):Mid B E w w'':=
 h.trans ⟨by omega,fun k h1 h2=>hk k (by omega)⟩
theorem Mid.drew {B E:Nat} {w w':World} (h:Mid B E w w'):Mid B E w w'.drew:=⟨h.size,h.keep⟩
theorem Mid.alloc {B E:Nat} {w w':World} (h:Mid B E w w') (hE:E≤ w'.heap.size) (o:Obj):Mid B E w (w'.alloc o):=h.trans (.below ((Below.refl _ _).alloc (Nat.le_refl _) o) hE)
theorem Mid.up {B B' E:Nat} {w w':World} (h:Mid B E w w') (hB:B≤ B'):Mid B' E w w':=⟨h.size,fun k h1 h2=>h.keep k (by omega) h2⟩
theorem own_mid {w w':World} {B E B0:Nat} {e:TypeId} {size:Nat} {v:Value} {n:Nat} {xs:List Value} (h:w.ownsRow B0 e size v n xs) (hm:Mid B E w w') (hB:B≤ B0) (hE:w.heap.size≤ E):w'.ownsRow B0 e size v n xs:=by
 obtain⟨h1,h2⟩:=h
 refine⟨h1,?_⟩
 rcases h2 with h2|⟨g,cap,cur,h3,h4,h5,h6⟩
 ·exact .inl h2
 ·refine .inr ⟨g,cap,cur,h3,h4,?_,h6⟩
  rw[hm.keep g (by omega) (by have:=(Array.getElem?_eq_some_iff.1 h5).1;omega)];exact h5
theorem row_mid {w w':World} {B E:Nat} {a:Option Addr} {xs:List Value} (h:Row w a xs) (hm:Mid B E w w') (hn:Near B none a) (hE:w.heap.size≤ E):Row w' a xs:=by
 by_cases h0:xs= []
 ·exact .inl h0
 ·rcases h with h|⟨b,o,rfl,hc⟩
  ·exact absurd h h0
  ·have hlt:=Row.lt (.inr ⟨b,o,rfl,hc⟩) h0
   have hb:B≤ b:=by
    rcases hn b o none rfl with h1|⟨_,_,h1⟩
    ·exact h1
    ·cases h1
   exact .inr ⟨b,o,rfl,fun i hi=>by rw[World.cell?_of_block (w:=w) (hm.keep b hb (by omega))];exact hc i hi⟩
theorem can_mid {w w':World} {B E B0:Nat} {e:TypeId} {size:Nat} {a:Option Addr} {n c:Nat} {xs:List Value} (h:Can w B0 e size a n c xs) (hm:Mid B E w w') (hn:Near B none a) (hB:B≤ B0) (hE:w.heap.size≤ E):Can w' B0 e size a n c xs:=
 ⟨h.1,h.2.1,h.2.2.imp (fun⟨h1,h2⟩=>⟨h1,row_mid h2 hm hn hE⟩) (fun h=>own_mid h hm hB hE)⟩
section
variable {P:Program} {e:TypeId} {α:Type} {L:Lay P e α} {w w':World} {B E B0:Nat} {s:Sli} {xs:List α}
theorem SliAt.mid (h:SliAt L w B0 s xs) (hm:Mid B E w w') (hB:B≤ B0) (hE:w.heap.size≤ E):SliAt L w' B0 s xs:=⟨h.len,h.le,h.nil,h.near,row_mid h.row hm (h.near.mono hB) hE⟩
theorem OwnSli.mid (h:OwnSli L w B0 s xs) (hn:Near B0 none s.a) (hm:Mid B E w w') (hB:B≤ B0) (hE:w.heap.size≤ E):OwnSli L w' B0 s xs:=⟨can_mid h.can hm (hn.mono hB) hB hE,fun h0=>own_mid (h.own h0) hm hB hE⟩
theorem SliAt.of_clone {a:Option Addr} {c:Nat} (hpos:0< L.size) (hn:Near B none a) (hc:Can w B e L.size a xs.length c (xs.flatMap L.cells)):SliAt L w B ⟨a,xs.length,c⟩ xs:=
 ⟨rfl,hc.le,hc.none hpos,hn,hc.row⟩
end
def Ap (a b:Option Addr):Prop:= ∀x o q x' o' q',a=some ⟨x,o,q⟩→b= some ⟨x',o',q'⟩→x≠ x'
theorem Ap.of {a b:Option Addr} {E E':Nat} (h:∀x o q,a=some ⟨x,o,q⟩→x< E) (h2:Near E' none b) (hE:E≤ E'):Ap a b:=fun x o q x' o' q' h1 h3=>by
 have:=h x o q h1
 rcases h2 x' o' q' h3 with h4|⟨_,_,h4⟩
 ·omega
 ·cases h4
theorem Ap.symm {a b:Option Addr} (h:Ap a b):Ap b a:=fun x o q x' o' q' h1 h2 e=>h x' o' q' x o q h2 h1 e.symm
structure OwnSt (w:World) (B:Nat) (r:Raw) (s:St):Prop where
 is:StAt w B r s
 ten:OwnSli layTen w B r.ten s.tens
 lea:OwnSli layLea w B r.lea s.leas
 tl:Ap r.ten.a r.lea.a
 ts:Ap r.ten.a r.ses.a
 td:Ap r.ten.a r.dsk.a
 ls:Ap r.lea.a r.ses.a
 ld:Ap r.lea.a r.dsk.a
 lt:∀x o q,r.lea.a=some ⟨x,o,q⟩→x< w.heap.size
theorem DskAt.mid {w w':World} {B B0 E:Nat} {s:Sli} {xs:List Desk} (h:DskAt w B0 s xs) (hm:Mid B E w w') (hB:B≤ B0) (hE:w.heap.size≤ E):DskAt w' B0 s xs:=h.same (h.toSliAt.mid hm hB hE) hm.size fun g _ _ h1 h2=>hm.keep g (by omega) (by omega)
theorem StAt.mid {w w':World} {B B0 E:Nat} {r:Raw} {s:St} (h:StAt w B0 r s) (hm:Mid B E w w') (hB:B≤ B0) (hE:w.heap.size≤ E):StAt w' B0 r s:=
 ⟨h.term,h.stamp,h.next,h.ten.mid hm hB hE,h.lea.mid hm hB hE,h.ses.mid hm hB hE,h.dsk.mid hm hB hE⟩
theorem OwnSt.mid {w w':World} {B B0 E:Nat} {r:Raw} {s:St} (h:OwnSt w B0 r s) (hm:Mid B E w w') (hB:B≤ B0) (hE:w.heap.size≤ E):OwnSt w' B0 r s:=
 ⟨h.is.mid hm hB hE,h.ten.mid h.is.ten.near hm hB hE,h.lea.mid h.is.lea.near hm hB hE,h.tl,h.ts,h.td,h.ls,h.ld,fun x o q e=>Nat.lt_of_lt_of_le (h.lt x o q e) hm.size⟩
theorem OwnSt.base {w:World} {B B0:Nat} {r:Raw} {s:St} (h:OwnSt w B r s) (hB:B0≤ B):OwnSt w B0 r s:=⟨h.is.mono hB,h.ten.base hB,h.lea.base hB,h.tl,h.ts,h.td,h.ls,h.ld,h.lt⟩
def RetCopy (w:World) (s:St) (e:Ending) (w':World):Prop:= ∃r,e= .returned (Raw.agg r)∧OwnSt w' w.heap.size r s∧Below w.heap.size w w'
theorem wpList_store_keep {P:Program} {e:TypeId} {α:Type} {ops:Array Oper} {rest:List Oper} {op:Oper} {a:Act} {w:World} {Q:Exit→ Act→World→ Prop} (L:Lay P e α) (hgd:op.guard= none) (x y:Operand) (ho:op.op= .store e x y)
 (b o:Nat) (z:α) (hx:a.eval x= .pointer (some ⟨b,o,none⟩)) (hy:a.eval y=L.val z) (ht:w.there b o L.size)
 (h:∀w',w'.rangeAt b o (L.cells z)→w'.there b o L.size→(∀B,B≤b→ Below B w w')→w'.heap.size= w.heap.size→(∀k,k≠b→ w'.heap[k]? =w.heap[k]?)→wpList P ops Q rest (a.put op.dst undef) w'):wpList P ops Q (op::rest) a w:=
 wpList_store_lay L hgd x y ho b o z hx hy ht (h _ (range_put z ht) (World.there_setCells ht _ _ _) (fun _ hB=>Below.setCells hB _ _ (Below.refl _ _)) (setCells_size _ _ _ _) (fun k hk=>setCells_keep b _ _ _ k hk))
structure Box (w:World) (g:Nat) (cs:List Value):Prop where
 range:w.rangeAt g 0 cs
 there:w.there g 0 cs.length
theorem Box.cell {w:World} {g:Nat} {cs:List Value} (h:Box w g cs) {j:Nat} {v:Value} (hj:cs[j]? =some v):w.cell? ⟨g,j,none⟩=some v:=by
 have:=h.range j v hj
 rw[Nat.zero_add]at this;exact this
theorem Box.froz {w:World} {g:Nat} {cs:List Value} (h:Box w g cs) {j:Nat} (hj:j< cs.length):w.frozen? ⟨g,j,none⟩=false:= by
 have:=(h.there j hj).2
 rw[Nat.zero_add]at this;exact this
theorem Box.of_alloc {w w':World} {cs:List Value} {t:TypeId} (hb:Below (w.alloc (.cells cs.toArray t)).heap.size (w.alloc (.cells cs.toArray t)) w'):Box w' w.heap.size cs:=
 ⟨box_range hb,by have:=box_there hb;simpa using this⟩
theorem Box.of_alloc1 {w w':World} {o:Obj} {cs:List Value} {t:TypeId} (hb:Below ((w.alloc o).alloc (.cells cs.toArray t)).heap.size ((w.alloc o).alloc (.cells cs.toArray t)) w'):Box w' (w.heap.size+1) cs:=by
 have:=Box.of_alloc hb
 rw[World.size_alloc]at this;exact this
theorem Box.of_alloc2 {w w':World} {o o':Obj} {cs:List Value} {t:TypeId} (hb:Below (((w.alloc o).alloc o').alloc (.cells cs.toArray t)).heap.size (((w.alloc o).alloc o').alloc (.cells cs.toArray t)) w'):Box w' (w.heap.size+1+ 1) cs:=by
 have:=Box.of_alloc hb
 rw[World.size_alloc,World.size_alloc]at this;exact this
theorem Box.lt {w:World} {g:Nat} {cs:List Value} (h:Box w g cs) (h0:0< cs.length):g< w.heap.size:=World.block_lt_of_cell? w _ (h.cell (List.getElem?_eq_getElem h0))
theorem Box.block {w w':World} {g:Nat} {cs:List Value} (h:Box w g cs) (hg:w'.heap[g]? =w.heap[g]?):Box w' g cs:=
 ⟨fun j v hj=>by rw[World.cell?_of_block (w:=w) hg];exact h.range j v hj,fun j hj=>by
  have:=h.there j hj
  refine⟨by rw[World.cell?_of_block (w:=w) hg];exact this.1,?_⟩
  have h2:=this.2
  simp only[World.frozen?]at h2 ⊢
  rw[hg];exact h2⟩
theorem Box.below {w w':World} {g:Nat} {cs:List Value} {B:Nat} (h:Box w g cs) (hb:Below B w w') (hg:g< B):Box w' g cs:=h.block (hb.block g hg)
theorem Box.next {w w':World} {g:Nat} {cs:List Value} (h:Box w g cs) (h0:0< cs.length) (hb:Below w.heap.size w w'):Box w' g cs:=h.below hb (h.lt h0)
theorem Box.drew {w:World} {g:Nat} {cs:List Value} (h:Box w g cs):Box w.drew g cs:=h.block rfl
theorem Box.set {w:World} {g i:Nat} {cs:List Value} (h:Box w g cs) (hi:i< cs.length) (v:Value):Box (w.setCell ⟨g,i,none⟩ v) g (cs.set i v):=by
 have hci:=h.cell (List.getElem?_eq_getElem hi)
 refine⟨fun j u hj=> ?_,fun j hj=> ?_⟩
 ·rw[Nat.zero_add]
  by_cases e:i= j
  ·subst e
   rw[List.getElem?_set_self hi]at hj
   rw[←hj];exact World.cell?_setCell_same _ _ _ hci
  ·rw[List.getElem?_set_ne e]at hj
   rw[World.cell?_setCell_other w _ _ v (fun h=>e (congrArg Addr.off h))]
   exact h.cell hj
 ·rw[List.length_set]at hj
  refine⟨?_,?_⟩
  ·rw[Nat.zero_add]
   by_cases e:i= j
   ·subst e;rw[World.cell?_setCell_same _ _ _ hci];rfl
   ·rw[World.cell?_setCell_other w _ _ v (fun h=>e (congrArg Addr.off h)),h.cell (List.getElem?_eq_getElem hj)];rfl
  ·rw[World.frozen?_setCell];exact(h.there j hj).2
theorem Box.far {w:World} {g:Nat} {cs:List Value} (h:Box w g cs) {p:Addr} (hp:p.block≠ g) (v:Value):Box (w.setCell p v) g cs:=h.block (Below.heap_setCell _ _ _ _ (fun e=>hp e.symm))
abbrev stFacts (w:World) (g:Nat) (r:Raw):Prop:= (w.cell? ⟨g,0,none⟩=some (.int .i64 r.term)∧w.cell? ⟨g,1,none⟩=some (.int .i64 r.stamp)∧w.cell? ⟨g,2,none⟩=some (.int .i64 r.next)∧
 w.cell? ⟨g,3,none⟩=some (.slice r.ten.a r.ten.n r.ten.c)∧w.cell? ⟨g,4,none⟩=some (.slice r.lea.a r.lea.n r.lea.c)∧w.cell? ⟨g,5,none⟩=some (.slice r.ses.a r.ses.n r.ses.c)∧w.cell? ⟨g,6,none⟩=some (.slice r.dsk.a r.dsk.n r.dsk.c))∧
 (w.frozen? ⟨g,0,none⟩=false∧ w.frozen? ⟨g,1,none⟩=false∧ w.frozen? ⟨g,2,none⟩=false∧ w.frozen? ⟨g,3,none⟩=false∧ w.frozen? ⟨g,4,none⟩=false∧ w.frozen? ⟨g,5,none⟩=false∧ w.frozen? ⟨g,6,none⟩=false)∧g< w.heap.size
theorem Box.st {w:World} {g:Nat} {r:Raw} (h:Box w g r.cells):stFacts w g r:=
 ⟨cellsSt0 h.range,⟨h.froz (by simp),h.froz (by simp),h.froz (by simp),h.froz (by simp),h.froz (by simp),h.froz (by simp),h.froz (by simp)⟩,h.lt (by simp)⟩
section
variable {P:Program} {e:TypeId} {α:Type}
structure Wrote (g:Nat) (w w':World):Prop where
 below:∀B,B≤g→ Below B w w'
 size:w'.heap.size= w.heap.size
 keep:∀k,k≠g→ w'.heap[k]? =w.heap[k]?
theorem Box.wrote {w w':World} {g g':Nat} {cs:List Value} (h:Box w g cs) (hw:Wrote g' w w') (hne:g≠ g'):Box w' g cs:=h.block (hw.keep g hne)
theorem Mid.wrote {B E g:Nat} {w w' w'':World} (h:Mid B E w w') (hw:Wrote g w' w'') (hg:g< B∨E≤ g):Mid B E w w'':=h.other hw.keep hw.size hg
theorem wpList_store_whole {ops:Array Oper} {rest:List Oper} {op:Oper} {a:Act} {w:World} {Q:Exit→ Act→World→ Prop} (L:Lay P e α) (hgd:op.guard= none) (x y:Operand) (ho:op.op= .store e x y)
 (g:Nat) (z:α) (cs:List Value) (hx:a.eval x= .pointer (some ⟨g,0,none⟩)) (hy:a.eval y=L.val z) (hb:Box w g cs) (hl:cs.length= L.size)
 (h:∀w',Box w' g (L.cells z)→Wrote g w w'→wpList P ops Q rest (a.put op.dst undef) w'):wpList P ops Q (op::rest) a w:=
 wpList_store_keep L hgd x y ho g 0 z hx hy (by rw[←hl];exact hb.there) (fun w' h1 h2 h3 h4 h5=>h w' ⟨h1,by rw[L.len];exact h2⟩ ⟨h3,h4,h5⟩)
theorem wpList_store_field {ops:Array Oper} {rest:List Oper} {op:Oper} {a:Act} {w:World} {Q:Exit→ Act→World→ Prop} {t:TypeId} (hgd:op.guard= none) (x y:Operand) (ho:op.op= .store t x y) (hi:(P.info? t).map (·.size)=some 1)
 (g i:Nat) (cs:List Value) (v:Value) (hx:a.eval x= .pointer (some ⟨g,i,none⟩)) (hy:a.eval y=v) (hv:v.cells= #[v]) (h1:v.oneCell'= true) (hb:Box w g cs) (hlt:i< cs.length)
 (h:∀w',Box w' g (cs.set i v)→Wrote g w w'→wpList P ops Q rest (a.put op.dst undef) w'):wpList P ops Q (op::rest) a w:=
 wpList_plain hgd fun K hK=>by
  have hth:w.there g i 1:=fun j hj=>by
   have:=hb.there i hlt
   obtain rfl:j= 0:=by omega
   rw[Nat.zero_add]at this;exact this
  have hrun:(storeVar t ⟨g,i,none⟩ v).run P w= .ok () (w.setCell ⟨g,i,none⟩ v):=by
   have:=run_storeCells_cells (P:=P) g i [v] 0 w (fun j hj=>by simpa using (hth j (by simpa using hj)).1) (fun j hj=>by simpa using (hth j (by simpa using hj)).2) (fun u hu=>by simp at hu;subst hu;exact h1)
   cases hq:P.info? t with
   |none=> simp[hq]at hi
   |some q=>
    have hs:q.size= 1:=by simpa[hq]using hi
    simp only[Nat.add_zero]at this
    simp[storeVar,sizeOf,typeInfo,hq,hv,hs,this,World.setCells]
  unfold Oper.wp execOp
  simp only[ho,hx,hy,Instr.storeAt,Instr.sureAddr,Sem.run_bind,Sem.run_pure,Result.andThen_ok,hrun]
  exact hK _ _ (h _ (hb.set hlt v) ⟨fun B hB=>(Below.refl B w).setCell (p:=⟨g,i,none⟩) hB v,by simp,fun k hk=>Below.heap_setCell _ _ _ _ (fun e=>hk e)⟩)
end
theorem size1_slice:(Tryz.prog.info? 23).map (·.size)=some 1∧(Tryz.prog.info? 22).map (·.size)=some 1∧(Tryz.prog.info? 3).map (·.size)=some 1:=⟨by kernel_rfl,by kernel_rfl,by kernel_rfl⟩
structure Only (g:Nat) (w w':World):Prop where
 os:w'.os= w.os
 tape:w'.tape= w.tape
 output:w'.output= w.output
 size:w.heap.size≤ w'.heap.size
 block:∀k,k<w.heap.size→ k≠g→ w'.heap[k]? =w.heap[k]?
theorem Only.refl (g:Nat) (w:World):Only g w w:=⟨rfl,rfl,rfl,Nat.le_refl _,fun _ _ _=>rfl⟩
theorem Only.trans {g:Nat} {w w' w'':World} (h:Only g w w') (h2:Only g w' w''):Only g w w'':=
 ⟨h2.os.trans h.os,h2.tape.trans h.tape,h2.output.trans h.output,Nat.le_trans h.size h2.size,fun k h1 h3=>(h2.block k (Nat.lt_of_lt_of_le h1 h.size) h3).trans (h.block k h1 h3)⟩
theorem Only.of {g:Nat} {w w':World} (h:Below w.heap.size w w'):Only g w w':=⟨h.os,h.tape,h.output,h.size,fun k hk _=>h.block k hk⟩
theorem Only.next {g:Nat} {w w' w'':World} (h:Only g w w') (h2:Below w'.heap.size w' w''):Only g w w'':=h.trans (.of h2)
theorem Only.put {g:Nat} {w w' w'':World} (h:Only g w w') (h2:∀B,B≤g→ Below B w' w'') (hk:∀k,k≠g→ w''.heap[k]? =w'.heap[k]?):Only g w w'':=
 h.trans ⟨(h2 0 (Nat.zero_le _)).os,(h2 0 (Nat.zero_le _)).tape,(h2 0 (Nat.zero_le _)).output,(h2 0 (Nat.zero_le _)).size,fun k _ hne=>hk k hne⟩
theorem Only.below {g:Nat} {w w':World} (h:Only g w w') {B:Nat} (hB:B≤ g) (hs:B≤ w.heap.size):Below B w w':=⟨h.os,h.tape,h.output,h.size,fun k hk=>h.block k (by omega) (by omega)⟩
section
variable {P:Program} {e:TypeId} {α:Type}
theorem wpList_store_mineO {ops:Array Oper} {rest:List Oper} {op:Oper} {a:Act} {w:World} {Q:Exit→ Act→World→ Prop} (L:Lay P e α) (hgd:op.guard= none) (x y:Operand) (ho:op.op= .store e x y)
 {B g o:Nat} {xs:List α} (hm:Mine L w B g o xs) (k:Nat) (hk:k< xs.length) (z:α) (hx:a.eval x= .pointer (some ⟨g,o+k* L.size,none⟩)) (hy:a.eval y=L.val z)
 (h:∀w',Mine L w' B g o (xs.set k z)→Only g w w'→w'.heap.size= w.heap.size→wpList P ops Q rest (a.put op.dst undef) w'):wpList P ops Q (op::rest) a w:=
 wpList_store_lay L hgd x y ho g (o+k* L.size) z hx hy (hm.there hk) (h _ (hm.set hk z) ((Only.refl g w).put (fun _ hB=>Below.setCells hB _ _ (Below.refl _ _)) (fun k hk=>setCells_keep g _ _ _ k hk)) (setCells_size _ _ _ _))
theorem wpList_clear_mineO {ops:Array Oper} {rest:List Oper} {op:Oper} {a:Act} {w:World} {Q:Exit→ Act→World→ Prop} (L:Lay P e α) {t:TypeId} (ht:P.underlying t=some (.slice e)) (hgd:op.guard= none) (s:Operand)
 (ho:op.op= .call {callee:= .builtin .clear,args:= #[s],argTypes:= #[t]}) {B g o:Nat} {xs:List α} (hm:Mine L w B g o xs) (k:Nat) (hk:k≤ xs.length) (n c:Nat) (hn:n+ k=xs.length) (hs:a.eval s= .slice (some ⟨g,o+k* L.size,none⟩) n c)
 (h:∀w',Mine L w' B g o (xs.take k)→Only g w w'→w'.heap.size= w.heap.size→wpList P ops Q rest (a.put op.dst (.tuple #[])) w'):wpList P ops Q (op::rest) a w:=by
 have hth:w.there g (o+k* L.size) (n*L.size):=fun j hj=>by
  have:=hm.2.2 (k*L.size+ j) (by rw[←hn,Nat.add_mul];omega)
  rw[Nat.add_assoc];exact this
 refine wpList_clear_lay L ht hgd s ho g (o+k* L.size) n c hs hth fun zs _=>h _ ?_ ((Only.refl g w).put (fun _ hB=>Below.setCells hB _ _ (Below.refl _ _)) (fun k hk=>setCells_keep g _ _ _ k hk)) (setCells_size _ _ _ _)
 have h1:=hm.take k
 refine⟨h1.1,World.rangeAt_setCells_apart h1.2.1 _ _ _ (.inr (.inl ?_)),World.there_setCells h1.2.2 _ _ _⟩
 rw[L.length,List.length_take,Nat.min_eq_left hk];omega
theorem Mine.only {L:Lay P e α} {w w':World} {B g o g':Nat} {xs:List α} (h:Mine L w B g o xs) (hb:Below w.heap.size w w') (hg:g< w.heap.size):Mine L w' B g o xs:=h.below hb hg
end
theorem el_ints:Elem Tryz.prog 52 3 1 8 where
 under:=Tryz.underlying52
 info:=by
  have h:(Tryz.prog.info? 3).map (fun i=>(i.zero,i.size,i.bytes))=some (some (.int .i64 0),1,8):=by kernel_rfl
  obtain⟨i,hi,h0,h1,h2⟩:=info_parts h
  exact⟨i,_,hi,h0,h1,h2,rfl⟩
 pos:=by decide
 bpos:=by decide
def outsK (ls:List Lease) (k:Nat):List Int:=(List.range k).map fun i:Nat=> outL ls ((i:Int)+1)
theorem outsK_succ (ls:List Lease) (k:Nat):outsK ls (k+1)=outsK ls k++[outL ls ((k:Int)+1)]:=by unfold outsK;rw[List.range_succ,List.map_append];rfl
theorem outsK_all (ls:List Lease):outsK ls 16=outsL ls:=rfl
theorem OutMap.app {w w':World} {o:Obj} {B mb mn B0:Nat} {mf:Int→ Option Int} {ls:List Lease} {e:TypeId} {size:Nat} {v:Value} {n:Nat} {xs:List Value} (h:OutMap w B mb mn mf ls) (hown:w.ownsRow B0 e size v n xs) (hg:(w.alloc o).grownBy w' v.ownBlock):OutMap w' B mb mn mf ls:=by
 refine⟨?_,h.out,h.base,h.small⟩
 have hm:=h.map
 have hlt:=hm.lt
 obtain⟨D,⟨es,clock,h1,h2⟩,hf⟩:=hm
 have hne:v.ownBlock≠ some mb:=by
  intro e
  rcases hown.2 with⟨rfl,_⟩|⟨g,cap,cur,rfl,_,hgc,_⟩
  ·simp[Value.ownBlock]at e
  ·simp[Value.ownBlock]at e
   subst e
   rw[h1]at hgc;cases hgc
 refine⟨D,⟨es,clock,?_,h2⟩,hf⟩
 rw[hg.block mb (by simp;omega) (by first|exact hne|exact fun e=>hne e.symm|exact fun e=>hne e),heap_alloc_old w o hlt]
 exact h1
def RetSweep (w:World) (B g:Nat) (s:St) (e:Ending) (w':World):Prop:= e= .returned (.tuple #[])∧∃r,Box w' g (Raw.cells r)∧StAt w' B r (sweptS s)∧Below g w w'∧Only g w w'
theorem sweep_fin {w w3 w5 w7:World} {B g:Nat} {term stamp next:Int} {a1 a2 a3 a4 x1:Option Addr} {n1 c1 n2 c2 n3 c3 n4 c4 y1:Nat} {s:St} {l:List Tenant}
 (h:StAt w B ⟨term,stamp,next,⟨a1,n1,c1⟩,⟨a2,n2,c2⟩,⟨a3,n3,c3⟩,⟨a4,n4,c4⟩⟩ s) (hg:g< B) (hB:B≤ w.heap.size) (hl:sweepS s.tens (outsL s.leas)=l)
 (b3:Below w.heap.size w w3) (b5:Below w3.heap.size w3 w5) (hbox:Box w5 g (Raw.cells ⟨term,stamp,next,⟨a1,n1,c1⟩,⟨a2,n2,c2⟩,⟨a3,n3,c3⟩,⟨a4,n4,c4⟩⟩)) (hle:l.length≤ y1) (hnil:x1= none→y1= 0) (hnear:Near w3.heap.size a1 x1) (hrow:TRow w5 x1 l)
 (h7:w7= w5.setCell ⟨g,3,none⟩ (.slice x1 l.length y1)):RetSweep w B g s (.returned (.tuple #[])) w7:=by
 have s3:=b3.size
 have b5':Below w.heap.size w w5:=b3.trans (b5.mono s3)
 have m7:Mid B w.heap.size w w7:=by rw[h7];exact(Mid.below b5' (Nat.le_refl _)).setCell _ _ (.inl hg)
 refine⟨rfl,⟨term,stamp,next,⟨x1,l.length,y1⟩,⟨a2,n2,c2⟩,⟨a3,n3,c3⟩,⟨a4,n4,c4⟩⟩,by rw[h7];exact hbox.set (i:=3) (by simp) _,?_,?_,?_⟩
 ·have hnr:Near B none x1:=h.ten.near.trans (hnear.mono (by omega))
  refine⟨h.term,h.stamp,h.next,⟨by unfold sweptS;rw[←hl],hle,hnil,hnr,?_⟩,h.lea.mid m7 (Nat.le_refl _) (Nat.le_refl _),h.ses.mid m7 (Nat.le_refl _) (Nat.le_refl _),h.dsk.mid m7 (Nat.le_refl _) (Nat.le_refl _)⟩
  show LRow layTen w7 x1 (sweepS s.tens (outsL s.leas))
  rw[hl,h7]
  exact Row.setOther hrow (fun b o q e=>by rcases hnr b o q e with h1|⟨_,_,h1⟩;show b≠g;omega;cases h1) _
 ·rw[h7]
  exact(b5'.mono (by omega)).setCell (p:=⟨g,3,none⟩) (Nat.le_refl g) _
 ·rw[h7]
  exact(Only.of b5').put (fun B hB=>(Below.refl B w5).setCell (p:=⟨g,3,none⟩) hB _) (fun k hk=>Below.heap_setCell _ _ _ _ (fun e=>hk e))
set_option maxHeartbeats 4000000 in
theorem sweep_st (s:St) (r:Raw) (B g:Nat) (w:World) (hbox:Box w g r.cells) (h:StAt w B r s) (hg:g< B) (hB:B≤ w.heap.size) (hfit:Fits s.leas) (hl1:s.tens.length≤ 900) (hl2:s.leas.length≤ 900):
 Calls Tryz.prog 56 #[.pointer (some ⟨g,0,none⟩)] w (RetSweep w B g s):=by
 obtain⟨term,stamp,next,⟨a1,n1,c1⟩,⟨a2,n2,c2⟩,⟨a3,n3,c3⟩,⟨a4,n4,c4⟩⟩:=r
 have HFIN:=Lib.hid (fun l (hl:sweepS s.tens (outsL s.leas)=l) {w3 w5 w7} b3 b5 hbx {x1 y1} hle hnil hnear hrow h7=>sweep_fin (w3:=w3) (w5:=w5) (w7:=w7) (x1:=x1) (y1:=y1) (l:=l) h hg hB hl b3 b5 hbx hle hnil hnear hrow h7)
 have H1:=Lib.hid h.ten
 have H2:=Lib.hid h.lea
 have HBX:=Lib.hid hbox
 have HG:Hid (g<w.heap.size):=Nat.lt_of_lt_of_le hg hB
 have hout:=Lib.hid (outs_any s.leas ⟨term,stamp,next,⟨a1,n1,c1⟩,⟨a2,n2,c2⟩,⟨a3,n3,c3⟩,⟨a4,n4,c4⟩⟩ w h.lea.len (by omega) hfit h.lea.row)
 have HSW:=Lib.hid (fun b m d w' (hb:Below w.heap.size w w') (hm:(outsL s.leas).length=m) (hro:Row w' b ((outsL s.leas).map (Value.int .i64)))=>sweep_any s.tens (outsL s.leas) a1 b n1 c1 m d w' h.ten.len hm hl1 (by rw[←hm,outsL_length];omega) h.ten.nil h.ten.le (Row.below h.trow hb) hro)
 have HLN:=Lib.hid (sweepS_length s.tens (outsL s.leas))
 clear h hbox hfit
 obtain⟨⟨k0,k1,k2,k3,k4,k5,k6⟩,⟨z0,z1,z2,z3,z4,z5,z6⟩,zz⟩:=HBX.out.st
 simp only at k0 k1 k2 k3 k4 k5 k6
 go_enter Tryz.func56,Tryz.ntmps56
 go_wp2_with(first|(refine wpList_load_as laySt rfl (.tmp 6) rfl g 0 rfl ⟨term,stamp,next,⟨a1,n1,c1⟩,⟨a2,n2,c2⟩,⟨a3,n3,c3⟩,⟨a4,n4,c4⟩⟩ (.agg #[.int .i64 term,.int .i64 stamp,.int .i64 next,.slice a1 n1 c1,.slice a2 n2 c2,.slice a3 n3 c3,.slice a4 n4 c4]) rfl HBX.out.range ?_)|(go_at_call 58;((with_reducible refine hout.out.mono ?_);rintro e w2 ⟨mb,mn,mf,rfl,hmap,hb2⟩;have HMAP:=Lib.hid hmap;clear hmap)))
 clear k0 k1 k2 k3 k4 k5 k6 z0 z1 z2 z3 z4 z5 z6
 go_loopw [3,4] (fun l i wr=>∃k: Nat,∃a c,k≤16∧ i= .int .i64 ((k:Int)+1)∧l= .slice a k c∧Hid (wr.ownsRow w.heap.size 3 1 (.slice a k c) k ((outsK s.leas k).map (Value.int .i64)))∧Below w.heap.size w wr∧Hid (OutMap wr w.heap.size mb mn mf s.leas)) (fun _ i _=>17- (intOf i).toNat)
 case atStart=>exact ⟨0,none,0,by omega,rfl,rfl,World.ownsRow_nil _ _ _ _,hb2,HMAP.out⟩
 case round=>
  obtain⟨k,a,c,hk,rfl,rfl,hown,hb,hmap⟩:=hrel
  by_cases hlt:k< 16
  ·have hlt':((k:Int)+1≤ 16):=by omega
   have HZ:Hid ((mf ((k:Int)+1)).getD 0=outL s.leas ((k:Int)+1)):=hmap.out.out _
   have HS:=Lib.hid (outsK_succ s.leas k)
   have HW:Hid ((Lit.int .i64 ((k:Int)+1)).wf=true):=wf_sm (by omega) (by omega)
   generalize outL s.leas ((k:Int)+1)=z at HZ HS
   go_wp2_with(first|(refine wpList_getI keyI Tryz.underlying100 Tryz.underlying3 zero_i rfl (.tmp 14) (.tmp 15) rfl mb mn mf rfl hmap.out.map ((k:Int)+1) HW.out rfl ?_;rw[HZ.out])|(at_builtin;refine wpList_app el_ints rfl _ _ rfl w.heap.size _ k _ rfl (hown.out.alloc _) (some ⟨wr.heap.size,0,none⟩) 1 1 [.int .i64 z] rfl rfl (Row.new _ _ _ _) (by intro u hu;simp at hu;subst hu;rfl) (by omega) (by have:=hb.size;simp;omega) ?_;intro a2 c2 w4 hown4 hg4;have hb4:=Below.app (hb.alloc hb.size _) (hown.out.alloc _) hg4 (by have:=hb.size;simp;omega);have HM4:=Lib.hid (hmap.out.app hown.out hg4);have HO4:=Lib.hid hown4;clear hg4 hown4))
   go_roundw
   case rel=>exact ⟨k+1,a2,c2,by omega,by go_num,rfl,by show World.ownsRow _ _ _ _ _ _ _;rw[HS.out,List.map_append];exact HO4.out,hb4,HM4.out⟩
   case measure=>simp [intOf];omega
  ·obtain rfl:k= 16:=by omega
   have HBR:=Lib.hid (HBX.out.below hb HG.out)
   obtain⟨⟨k0,k1,k2,k3,k4,k5,k6⟩,⟨z0,z1,z2,z3,z4,z5,z6⟩,zz⟩:=HBR.out.st
   simp only at k0 k1 k2 k3 k4 k5 k6
   go_wp2_with(go_at_call 97;((with_reducible refine(HSW.out a 16 c wr hb (outsL_length _) (by rw[←outsK_all];exact own_row hown.out)).mono ?_);generalize hres:sweepS s.tens (outsL s.leas)=res;have HRES:=Lib.hid hres;clear hres;rintro e w5 ⟨x1,y1,rfl,hle5,hnil5,hnear5,hrow5,hb5⟩;have K5:=Lib.hid (And.intro hle5 (And.intro hnil5 (And.intro hnear5 hrow5)));clear hle5 hnil5 hnear5 hrow5;have B5:=Lib.hid (HBR.out.next (by simp) hb5);obtain⟨⟨k0,k1,k2,k3,k4,k5,k6⟩,⟨z0,z1,z2,z3,z4,z5,z6⟩,zz⟩:=B5.out.st;simp only at k0 k1 k2 k3 k4 k5 k6))
   go_end0
   exact HFIN.out res HRES.out hb hb5 B5.out K5.out.1 K5.out.2.1 K5.out.2.2.1 K5.out.2.2.2 rfl
set_option maxHeartbeats 1000000 in
theorem indexFuncLea (xs:List Lease) (a:Option Addr) (n c:Nat) (fid:FuncId) (cap:Array Value) (p:Lease→ Bool) (w:World) (hn:xs.length= n) (hl:n≤ maxLen) (hr:LRow layLea w a xs)
 (hcf:∀(args:Array Value) (w:World),(callFunc fid args).run Tryz.prog w= .ok (.enter fid args) w)
 (hf:∀x∈ xs,∀w',Below w.heap.size w w'→Calls Tryz.prog fid (#[(layLea).val x]++cap) w' fun e w''=>e= .returned (.bool (p x))∧Below w'.heap.size w' w''):
 Calls Tryz.prog 168 #[.slice a n c,.func (.func fid) #[] cap] w fun e w'=>e= .returned (.int .i64 (idxL p xs))∧Below w.heap.size w w':=by
 subst hn
 have hl2:=lt_maxLen hl
 have HI:=Lib.hid (fun k (hk:k< xs.length)=>idxL_some (p:=p) hk)
 have HN:=Lib.hid (idxL_none (p:=p) (xs:=xs))
 have HF:=Lib.hid hf
 generalize idxL p xs=res at HI HN ⊢
 clear hf
 go_enter Tryz.func168,Tryz.ntmps168
 go_wp2
 go_loopw [8] (fun i wr=>∃k: Nat,k≤xs.length∧ i= .int .i64 k∧(∀j (h:j< xs.length),j<k→ p xs[j]=false)∧Below w.heap.size w wr) (fun i _=>xs.length- (intOf i).toNat)
 case atStart=>exact ⟨0,by omega,rfl,by omega,Below.refl _ _⟩
 case round=>
  obtain⟨k,hk,rfl,hno,hb⟩:=hrel
  have HNO:=Lib.hid hno
  clear hno
  by_cases hlt:k< xs.length
  ·obtain⟨b,o,rfl,hcs⟩:=hr.range hlt
   have hrange:=Lib.hid (hcs _ hb)
   have HF1:=Lib.hid (HF.out xs[k] (List.getElem_mem hlt) wr hb)
   clear hcs
   cases hp:p xs[k]with
   |true=>
    go_wp2_with(first|(refine wpList_load_lay layLea rfl _ rfl b (o+k* (layLea).size) rfl _ hrange.out ?_)|(refine HF1.out.mono ?_;rw[hp];rintro e w2 ⟨rfl,hb2⟩))
    go_returns
    exact⟨ret_int (HI.out k hlt HNO.out hp).symm,hb.trans (hb2.mono hb.size)⟩
   |false=>
    go_wp2_with(first|(refine wpList_load_lay layLea rfl _ rfl b (o+k* (layLea).size) rfl _ hrange.out ?_)|(refine HF1.out.mono ?_;rw[hp];rintro e w2 ⟨rfl,hb2⟩))
    go_roundw
    case rel=>exact ⟨k+1,by omega,by go_num,fun j h hj=>by rcases Nat.lt_succ_iff_lt_or_eq.1 hj with h1|rfl;exact HNO.out j h h1;exact hp,hb.trans (hb2.mono hb.size)⟩
    case measure=>simp [intOf];omega
  ·go_wp2
   go_returns
   exact⟨ret_int (HN.out fun j h=>HNO.out j h (by omega)).symm,hb⟩
def DefSweep (w:World) (B g:Nat) (s:St) (u:FrameMode) (e:Ending) (u':FrameMode) (w':World):Prop:= u'=u∧ RetSweep w B g s e w'
theorem credit1_d (B g:Nat) (s:St) (u:FrameMode) (w:World) (h:Calls Tryz.prog 56 #[.pointer (some ⟨g,0,none⟩)] w (RetSweep w B g s)):CallsD Tryz.prog 55 #[.pointer (some ⟨g,0,none⟩)] u w (DefSweep w B g s u):=by
 go_enter_d Tryz.func55,Tryz.ntmps55
 go_wp2_with(go_at_call 56;((with_reducible refine h.mono ?_);rintro e w' ⟨rfl,hh⟩))
 go_end0
 first|exact ⟨rfl,rfl,hh⟩|exact ⟨rfl,hh⟩|exact hh
theorem report1_d (B g:Nat) (s:St) (u:FrameMode) (w:World) (h:Calls Tryz.prog 56 #[.pointer (some ⟨g,0,none⟩)] w (RetSweep w B g s)):CallsD Tryz.prog 122 #[.pointer (some ⟨g,0,none⟩)] u w (DefSweep w B g s u):=by
 go_enter_d Tryz.func122,Tryz.ntmps122
 go_wp2_with(go_at_call 56;((with_reducible refine h.mono ?_);rintro e w' ⟨rfl,hh⟩))
 go_end0
 first|exact ⟨rfl,rfl,hh⟩|exact ⟨rfl,hh⟩|exact hh
theorem expire1_d (B g:Nat) (s:St) (u:FrameMode) (w:World) (h:Calls Tryz.prog 56 #[.pointer (some ⟨g,0,none⟩)] w (RetSweep w B g s)):CallsD Tryz.prog 128 #[.pointer (some ⟨g,0,none⟩)] u w (DefSweep w B g s u):=by
 go_enter_d Tryz.func128,Tryz.ntmps128
 go_wp2_with(go_at_call 56;((with_reducible refine h.mono ?_);rintro e w' ⟨rfl,hh⟩))
 go_end0
 first|exact ⟨rfl,rfl,hh⟩|exact ⟨rfl,hh⟩|exact hh
theorem index_ints (xs:List Int) (a:Option Addr) (n c:Nat) (v:Int) (w:World) (hn:xs.length= n) (hl:n≤ maxLen) (hr:Row w a (xs.map (Value.int .i64))):
 Calls Tryz.prog 170 #[.slice a n c,.int .i64 v] w fun e w'=>e= .returned (.int .i64 (idxL (fun x=>x== v) xs))∧Below w.heap.size w w':=by
 subst hn
 have hl2:=lt_maxLen hl
 have HI:=Lib.hid (fun k (hk:k< xs.length)=>idxL_some (p:=fun x=>x== v) hk)
 have HN:=Lib.hid (idxL_none (p:=fun x=>x== v) (xs:=xs))
 generalize idxL (fun x=>x== v) xs=res at HI HN ⊢
 go_enter Tryz.func170,Tryz.ntmps170
 go_wp2
 go_loopw [8] (fun i wr=>∃k: Nat,k≤xs.length∧ i= .int .i64 k∧Hid (∀j (h:j< xs.length),j<k→ (xs[j]==v)=false)∧Below w.heap.size w wr) (fun i _=>xs.length- (intOf i).toNat)
 case atStart=>exact ⟨0,by omega,rfl,(fun j _ hj=>by omega),Below.refl _ _⟩
 case round=>
  obtain⟨k,hk,rfl,hno,hb⟩:=hrel
  by_cases hlt:k< xs.length
  ·obtain⟨b,o,rfl,hcell⟩:=Row.getBelow hr (k:=k) (by rw[List.getElem?_map,List.getElem?_eq_getElem hlt];rfl)
   have hcl:=hcell _ hb
   have HK:=Lib.hid (HI.out k hlt hno.out)
   have HQ:Hid (xs[k]=xs[k]):=rfl
   generalize hx:xs[k]=x at hcl HK
   have HX:=Lib.hid hx
   clear hcell hx
   by_cases he:v= x
   ·subst he
    go_wp2
    go_returns
    exact⟨ret_int (HK.out (by simp)).symm,hb⟩
   ·go_wp2
    go_roundw
    case rel=>exact ⟨k+1,by omega,by go_num,(fun j h hj=>by rcases Nat.lt_succ_iff_lt_or_eq.1 hj with h1|rfl;exact hno.out j h h1;rw[HX.out];simp;exact fun e=>he e.symm),hb⟩
    case measure=>simp [intOf];omega
  ·go_wp2
   go_returns
   exact⟨ret_int (HN.out fun j h=>hno.out j h (by omega)).symm,hb⟩
theorem contains_eq (v:Int) (xs:List Int):decide (0≤idxL (fun x=>x== v) xs)=xs.contains v:=by
 rcases idxL_ways (fun x=>x== v) xs with⟨h1,h2⟩|⟨k,hk,h1,h2,_⟩
 ·rw[h1]
  have h3:xs.contains v=false:= by
   rw[Bool.eq_false_iff]
   intro h
   rw[List.contains_iff_mem]at h
   have:=h2 v h
   simp at this
  rw[h3];rfl
 ·rw[h1]
  have h3:xs.contains v=true:= by rw[List.contains_iff_mem,←show xs[k]=v by simpa using h2];exact List.getElem_mem hk
  rw[h3,decide_eq_true (by omega)]
theorem contains_ints (xs:List Int) (a:Option Addr) (n c:Nat) (v:Int) (w:World) (hn:xs.length= n) (hl:n≤ maxLen) (hr:Row w a (xs.map (Value.int .i64))):
 Calls Tryz.prog 131 #[.slice a n c,.int .i64 v] w fun e w'=>e= .returned (.bool (xs.contains v))∧Below w.heap.size w w':=by
 have HI:=Lib.hid (index_ints xs a n c v w hn hl hr)
 have HC:=Lib.hid (contains_eq v xs)
 generalize xs.contains v=res at HC ⊢
 clear hr
 go_enter Tryz.func131,Tryz.ntmps131
 go_wp2_with(go_at_call 170;((with_reducible refine HI.out.mono ?_);rintro e w' ⟨rfl,hb⟩))
 go_returns
 exact⟨ret_bool HC.out,hb⟩
theorem expire2_any (x:Lease) (xs:List Int) (g:Nat) (a:Option Addr) (n c:Nat) (w:World) (hn:xs.length= n) (hl:n≤ maxLen) (hc:w.cell? ⟨g,0,none⟩=some (.slice a n c)) (hr:Row w a (xs.map (Value.int .i64))):
 Calls Tryz.prog 130 #[x.agg,.pointer (some ⟨g,0,none⟩)] w fun e w'=>e= .returned (.bool (xs.contains x.id))∧Below w.heap.size w w':=by
 have hlt:=World.block_lt_of_cell? w _ hc
 simp only at hlt
 have HC:=Lib.hid (fun w' (hb:Below w.heap.size w w')=>contains_ints xs a n c x.id w' hn hl (Row.below hr hb))
 clear hr
 generalize xs.contains x.id=res at HC ⊢
 obtain⟨x0,x1,x2,x3,x4,x5,x6⟩:=x
 go_enter Tryz.func130,Tryz.ntmps130
 go_wp2_with(go_at_call 131;((with_reducible refine(HC.out _ belo).mono ?_);rintro e w' ⟨rfl,hb⟩))
 go_returns
 exact⟨rfl,belo⟩
theorem enter_expire2 (args:Array Value) (w:World):(callFunc 130 args).run Tryz.prog w= .ok (.enter 130 args) w:=by kernel_rfl
theorem place_lea (xs:List Lease) (a:Option Addr) (n c:Nat) (fid:FuncId) (cap:Array Value) (p:Lease→ Bool) (w:World) (hn:xs.length= n) (hl:n≤ maxLen) (hr:LRow layLea w a xs)
 (hcf:∀(args:Array Value) (w:World),(callFunc fid args).run Tryz.prog w= .ok (.enter fid args) w)
 (hf:∀x∈ xs,∀w',Below w.heap.size w w'→Calls Tryz.prog fid (#[layLea.val x]++cap) w' fun e w''=>e= .returned (.bool (p x))∧Below w'.heap.size w' w''):
 Calls Tryz.prog 123 #[.slice a n c,.func (.func fid) #[] cap] w fun e w'=>e= .returned (.tuple #[.int .i64 (idxL p xs),.bool (decide (0≤idxL p xs))])∧Below w.heap.size w w':=by
 have HI:=Lib.hid (indexFuncLea xs a n c fid cap p w hn hl hr hcf hf)
 clear hf hcf
 go_enter Tryz.func123,Tryz.ntmps123
 go_wp2_with(go_at_call 168;((with_reducible refine HI.out.mono ?_);rintro e w' ⟨rfl,hb⟩))
 go_returns
 exact⟨rfl,hb⟩
theorem containsFuncTen (xs:List Tenant) (a:Option Addr) (n c:Nat) (fid:FuncId) (cap:Array Value) (p:Tenant→ Bool) (w:World) (hn:xs.length= n) (hl:n≤ maxLen) (hr:LRow layTen w a xs)
 (hcf:∀(args:Array Value) (w:World),(callFunc fid args).run Tryz.prog w= .ok (.enter fid args) w)
 (hf:∀x∈ xs,∀w',Below w.heap.size w w'→Calls Tryz.prog fid (#[layTen.val x]++cap) w' fun e w''=>e= .returned (.bool (p x))∧Below w'.heap.size w' w''):
 Calls Tryz.prog 78 #[.slice a n c,.func (.func fid) #[] cap] w fun e w'=>e= .returned (.bool (decide (0≤idxL p xs)))∧Below w.heap.size w w':=by
 have HI:=Lib.hid (indexFuncTen xs a n c fid cap p w hn hl hr hcf hf)
 clear hf hcf
 go_enter Tryz.func78,Tryz.ntmps78
 go_wp2_with(go_at_call 39;((with_reducible refine HI.out.mono ?_);rintro e w' ⟨rfl,hb⟩))
 go_returns
 exact⟨rfl,hb⟩
set_option maxHeartbeats 1000000 in
theorem check1_any (x:Tenant) (ls:List Lease) (g B b n:Nat) (f:Int→ Option Int) (w:World) (h1:1≤ x.id∧x.id≤ 16) (h2:x.bucket≤ 1000000000) (h3:0≤ x.burst∧x.burst≤ 1000000) (ho:0≤ outL ls x.id∧outL ls x.id≤1000000000)
 (hc:w.cell? ⟨g,0,none⟩=some (.map (some b))) (hm:OutMap w B b n f ls):
 Calls Tryz.prog 79 #[x.agg,.pointer (some ⟨g,0,none⟩)] w fun e w'=>e= .returned (.bool (!tenRoom ls x))∧Below w.heap.size w w':=by
 have hlt:=World.block_lt_of_cell? w _ hc
 simp only at hlt
 have HM:=Lib.hid hm
 have HW:Hid ((Lit.int .i64 x.id).wf=true):=wf_sm (by omega) (by omega)
 have HR:Hid (tenRoom ls x=decide (0<x.bucket→ x.bucket+1000* outL ls x.id≤1000* x.burst)):=rfl
 generalize tenRoom ls x=res at HR ⊢
 obtain⟨id,rate,burst,bucket,gone⟩:=x
 simp only at h1 h2 h3 ho HW HR
 have HZ:Hid ((f id).getD 0=outL ls id):=hm.out id
 generalize outL ls id=z at ho HR HZ
 obtain⟨ho1,ho2⟩:=ho
 obtain⟨h31,h32⟩:=h3
 clear hm
 by_cases hb0:0< bucket
 ·have hg:decide (0<bucket)=true:= decide_eq_true hb0
  go_enter Tryz.func79,Tryz.ntmps79
  go_wp2_with(first|(refine wpList_strip (by rfl) ?_;refine wpList_getI keyI Tryz.underlying100 Tryz.underlying3 zero_i rfl (.tmp 10) (.tmp 12) rfl b n f rfl (HM.out.map.alloc _) id HW.out rfl ?_;rw[HZ.out]))
  go_returns
  refine⟨ret_bool ?_,belo⟩
  rw[HR.out,Bool.eq_iff_iff]
  simp only[decide_eq_true_iff,Bool.not_eq_true',decide_eq_false_iff_not]
  omega
 ·have hg:decide (0<bucket)=false:= decide_eq_false hb0
  go_enter Tryz.func79,Tryz.ntmps79
  go_wp2
  go_returns
  refine⟨ret_bool ?_,belo⟩
  rw[HR.out,decide_eq_true (fun h=>absurd h (by omega))];rfl
theorem enter_lcheck1 (args:Array Value) (w:World):(callFunc 79 args).run Tryz.prog w= .ok (.enter 79 args) w:=by kernel_rfl
def RetOwnTen (w:World) (xs:List Tenant) (e:Ending) (w':World):Prop:=
 ∃a c,e= .returned (.slice a xs.length c)∧Near w.heap.size none a∧Can w' w.heap.size 75 (layTen).size a xs.length c (xs.flatMap (layTen).cells)∧
  (0<xs.length→ w'.ownsRow w.heap.size 75 (layTen).size (.slice a xs.length c) xs.length (xs.flatMap (layTen).cells))∧(∀b o s,a=some ⟨b,o,s⟩→b< w'.heap.size)∧Below w.heap.size w w'
theorem cloneTen (xs:List Tenant) (a:Option Addr) (n c:Nat) (w:World) (hn:xs.length= n) (hby:n* (layTen).bytes≤140737488355328) (hm:n≤ maxLen) (hc:a= none→c= 0) (hnc:n≤ c) (hr:LRow layTen w a xs):
 Calls Tryz.prog 98 #[.slice a n c] w (RetOwnTen w xs):=by
 subst hn
 cases a with
 |none=>
  obtain rfl:=hc rfl
  have h0:xs.length= 0:=by omega
  obtain rfl:xs= []:=List.eq_nil_of_length_eq_zero h0
  go_enter Tryz.func98,Tryz.ntmps98
  have hnil:=Lib.run_eql_slice_nil (P:=Tryz.prog) w 22 75 none 0 0 0 0 Tryz.underlying22
  go_wp2
  go_returns
  exact⟨none,0,rfl,Near.nil _ _,Can.nil _ _ _ _,fun h=>absurd h (by simp),fun _ _ _ h=>(by cases h),Below.refl _ _⟩
 |some x=>
  have HR:=Lib.hid hr
  clear hr
  go_enter Tryz.func98,Tryz.ntmps98
  have hnil:=Lib.run_eql_slice_nil (P:=Tryz.prog) w 22 75 (some x) xs.length c 0 0 Tryz.underlying22
  go_wp2_with(at_builtin;refine wpList_can ((layTen).elem Tryz.underlying22) rfl _ _ rfl w.heap.size _ 0 _ _ rfl (Can.empty _ _ _ _ _) _ xs.length _ (xs.flatMap (layTen).cells) rfl ((layTen).length _) (Row.alloc HR.out _) ((layTen).ones _) (by rw[Nat.zero_add];exact hby) (by simp) ?_;intro a' c' w3 hcan3 _ hb3 hown)
  go_returns
  rw[Nat.zero_add,List.nil_append]at hcan3 hown
  have hnear:Near w.heap.size none a':=by
   by_cases h0:0< xs.length
   ·exact Near.own (hown.1 h0) (Nat.le_refl _)
   ·rw[(hown.2 (by omega)).1]
    intro b o s hb
    simp at hb
    exact .inl (by omega)
  have hblt:∀b o s,a'=some ⟨b,o,s⟩→b< w3.heap.size:=fun b o s hab=>by
   by_cases h0:0< xs.length
   ·exact((hown.1 h0).lt b (by rw[hab];rfl)).2
   ·have h1:=hb3.size
    rw[(hown.2 (by omega)).1]at hab
    simp at hab h1
    omega
  exact⟨a',c',rfl,hnear,hcan3,fun h=>hown.1 h,hblt,((Below.refl _ _).alloc (Nat.le_refl _) _).trans hb3⟩
def RetOwnLea (w:World) (xs:List Lease) (e:Ending) (w':World):Prop:=
 ∃a c,e= .returned (.slice a xs.length c)∧Near w.heap.size none a∧Can w' w.heap.size 59 (layLea).size a xs.length c (xs.flatMap (layLea).cells)∧
  (0<xs.length→ w'.ownsRow w.heap.size 59 (layLea).size (.slice a xs.length c) xs.length (xs.flatMap (layLea).cells))∧(∀b o s,a=some ⟨b,o,s⟩→b< w'.heap.size)∧Below w.heap.size w w'
theorem cloneLea (xs:List Lease) (a:Option Addr) (n c:Nat) (w:World) (hn:xs.length= n) (hby:n* (layLea).bytes≤140737488355328) (hm:n≤ maxLen) (hc:a= none→c= 0) (hnc:n≤ c) (hr:LRow layLea w a xs):
 Calls Tryz.prog 99 #[.slice a n c] w (RetOwnLea w xs):=by
 subst hn
 cases a with
 |none=>
  obtain rfl:=hc rfl
  have h0:xs.length= 0:=by omega
  obtain rfl:xs= []:=List.eq_nil_of_length_eq_zero h0
  go_enter Tryz.func99,Tryz.ntmps99
  have hnil:=Lib.run_eql_slice_nil (P:=Tryz.prog) w 23 59 none 0 0 0 0 Tryz.underlying23
  go_wp2
  go_returns
  exact⟨none,0,rfl,Near.nil _ _,Can.nil _ _ _ _,fun h=>absurd h (by simp),fun _ _ _ h=>(by cases h),Below.refl _ _⟩
 |some x=>
  have HR:=Lib.hid hr
  clear hr
  go_enter Tryz.func99,Tryz.ntmps99
  have hnil:=Lib.run_eql_slice_nil (P:=Tryz.prog) w 23 59 (some x) xs.length c 0 0 Tryz.underlying23
  go_wp2_with(at_builtin;refine wpList_can ((layLea).elem Tryz.underlying23) rfl _ _ rfl w.heap.size _ 0 _ _ rfl (Can.empty _ _ _ _ _) _ xs.length _ (xs.flatMap (layLea).cells) rfl ((layLea).length _) (Row.alloc HR.out _) ((layLea).ones _) (by rw[Nat.zero_add];exact hby) (by simp) ?_;intro a' c' w3 hcan3 _ hb3 hown)
  go_returns
  rw[Nat.zero_add,List.nil_append]at hcan3 hown
  have hnear:Near w.heap.size none a':=by
   by_cases h0:0< xs.length
   ·exact Near.own (hown.1 h0) (Nat.le_refl _)
   ·rw[(hown.2 (by omega)).1]
    intro b o s hb
    simp at hb
    exact .inl (by omega)
  have hblt:∀b o s,a'=some ⟨b,o,s⟩→b< w3.heap.size:=fun b o s hab=>by
   by_cases h0:0< xs.length
   ·exact((hown.1 h0).lt b (by rw[hab];rfl)).2
   ·have h1:=hb3.size
    rw[(hown.2 (by omega)).1]at hab
    simp at hab h1
    omega
  exact⟨a',c',rfl,hnear,hcan3,fun h=>hown.1 h,hblt,((Below.refl _ _).alloc (Nat.le_refl _) _).trans hb3⟩
def RetOwnSes (w:World) (xs:List Session) (e:Ending) (w':World):Prop:=
 ∃a c,e= .returned (.slice a xs.length c)∧Near w.heap.size none a∧Can w' w.heap.size 92 (laySes).size a xs.length c (xs.flatMap (laySes).cells)∧
  (0<xs.length→ w'.ownsRow w.heap.size 92 (laySes).size (.slice a xs.length c) xs.length (xs.flatMap (laySes).cells))∧(∀b o s,a=some ⟨b,o,s⟩→b< w'.heap.size)∧Below w.heap.size w w'
theorem cloneSes (xs:List Session) (a:Option Addr) (n c:Nat) (w:World) (hn:xs.length= n) (hby:n* (laySes).bytes≤140737488355328) (hm:n≤ maxLen) (hc:a= none→c= 0) (hnc:n≤ c) (hr:LRow laySes w a xs):
 Calls Tryz.prog 100 #[.slice a n c] w (RetOwnSes w xs):=by
 subst hn
 cases a with
 |none=>
  obtain rfl:=hc rfl
  have h0:xs.length= 0:=by omega
  obtain rfl:xs= []:=List.eq_nil_of_length_eq_zero h0
  go_enter Tryz.func100,Tryz.ntmps100
  have hnil:=Lib.run_eql_slice_nil (P:=Tryz.prog) w 24 92 none 0 0 0 0 Tryz.underlying24
  go_wp2
  go_returns
  exact⟨none,0,rfl,Near.nil _ _,Can.nil _ _ _ _,fun h=>absurd h (by simp),fun _ _ _ h=>(by cases h),Below.refl _ _⟩
 |some x=>
  have HR:=Lib.hid hr
  clear hr
  go_enter Tryz.func100,Tryz.ntmps100
  have hnil:=Lib.run_eql_slice_nil (P:=Tryz.prog) w 24 92 (some x) xs.length c 0 0 Tryz.underlying24
  go_wp2_with(at_builtin;refine wpList_can ((laySes).elem Tryz.underlying24) rfl _ _ rfl w.heap.size _ 0 _ _ rfl (Can.empty _ _ _ _ _) _ xs.length _ (xs.flatMap (laySes).cells) rfl ((laySes).length _) (Row.alloc HR.out _) ((laySes).ones _) (by rw[Nat.zero_add];exact hby) (by simp) ?_;intro a' c' w3 hcan3 _ hb3 hown)
  go_returns
  rw[Nat.zero_add,List.nil_append]at hcan3 hown
  have hnear:Near w.heap.size none a':=by
   by_cases h0:0< xs.length
   ·exact Near.own (hown.1 h0) (Nat.le_refl _)
   ·rw[(hown.2 (by omega)).1]
    intro b o s hb
    simp at hb
    exact .inl (by omega)
  have hblt:∀b o s,a'=some ⟨b,o,s⟩→b< w3.heap.size:=fun b o s hab=>by
   by_cases h0:0< xs.length
   ·exact((hown.1 h0).lt b (by rw[hab];rfl)).2
   ·have h1:=hb3.size
    rw[(hown.2 (by omega)).1]at hab
    simp at hab h1
    omega
  exact⟨a',c',rfl,hnear,hcan3,fun h=>hown.1 h,hblt,((Below.refl _ _).alloc (Nat.le_refl _) _).trans hb3⟩
def RetOwnDsk (w:World) (xs:List Desk) (e:Ending) (w':World):Prop:=
 ∃a c,e= .returned (.slice a xs.length c)∧Near w.heap.size none a∧Can w' w.heap.size 66 (layDsk).size a xs.length c (xs.flatMap (layDsk).cells)∧
  (0<xs.length→ w'.ownsRow w.heap.size 66 (layDsk).size (.slice a xs.length c) xs.length (xs.flatMap (layDsk).cells))∧(∀b o s,a=some ⟨b,o,s⟩→b< w'.heap.size)∧Below w.heap.size w w'
theorem cloneDsk (xs:List Desk) (a:Option Addr) (n c:Nat) (w:World) (hn:xs.length= n) (hby:n* (layDsk).bytes≤140737488355328) (hm:n≤ maxLen) (hc:a= none→c= 0) (hnc:n≤ c) (hr:LRow layDsk w a xs):
 Calls Tryz.prog 101 #[.slice a n c] w (RetOwnDsk w xs):=by
 subst hn
 cases a with
 |none=>
  obtain rfl:=hc rfl
  have h0:xs.length= 0:=by omega
  obtain rfl:xs= []:=List.eq_nil_of_length_eq_zero h0
  go_enter Tryz.func101,Tryz.ntmps101
  have hnil:=Lib.run_eql_slice_nil (P:=Tryz.prog) w 25 66 none 0 0 0 0 Tryz.underlying25
  go_wp2
  go_returns
  exact⟨none,0,rfl,Near.nil _ _,Can.nil _ _ _ _,fun h=>absurd h (by simp),fun _ _ _ h=>(by cases h),Below.refl _ _⟩
 |some x=>
  have HR:=Lib.hid hr
  clear hr
  go_enter Tryz.func101,Tryz.ntmps101
  have hnil:=Lib.run_eql_slice_nil (P:=Tryz.prog) w 25 66 (some x) xs.length c 0 0 Tryz.underlying25
  go_wp2_with(at_builtin;refine wpList_can ((layDsk).elem Tryz.underlying25) rfl _ _ rfl w.heap.size _ 0 _ _ rfl (Can.empty _ _ _ _ _) _ xs.length _ (xs.flatMap (layDsk).cells) rfl ((layDsk).length _) (Row.alloc HR.out _) ((layDsk).ones _) (by rw[Nat.zero_add];exact hby) (by simp) ?_;intro a' c' w3 hcan3 _ hb3 hown)
  go_returns
  rw[Nat.zero_add,List.nil_append]at hcan3 hown
  have hnear:Near w.heap.size none a':=by
   by_cases h0:0< xs.length
   ·exact Near.own (hown.1 h0) (Nat.le_refl _)
   ·rw[(hown.2 (by omega)).1]
    intro b o s hb
    simp at hb
    exact .inl (by omega)
  have hblt:∀b o s,a'=some ⟨b,o,s⟩→b< w3.heap.size:=fun b o s hab=>by
   by_cases h0:0< xs.length
   ·exact((hown.1 h0).lt b (by rw[hab];rfl)).2
   ·have h1:=hb3.size
    rw[(hown.2 (by omega)).1]at hab
    simp at hab h1
    omega
  exact⟨a',c',rfl,hnear,hcan3,fun h=>hown.1 h,hblt,((Below.refl _ _).alloc (Nat.le_refl _) _).trans hb3⟩
end Go.Proofs.YtfdmhpohfjbpfaaGreat
