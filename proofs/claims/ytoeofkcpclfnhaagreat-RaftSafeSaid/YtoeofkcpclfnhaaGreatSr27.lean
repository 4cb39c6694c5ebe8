import Derived.Test.YtoeofkcpclfnhaaGreatSr26
set_option linter.unusedVariables false
set_option linter.unusedSimpArgs false
namespace Go.Proofs.YtoeofkcpclfnhaaGreat
open Go.ChangeShapes Go.WideShapes Go.ChangeAt Go.RowKit
set_option maxRecDepth 100000
set_option maxHeartbeats 16000000
structure Nt where
 g:Nat→ Nat
 x:Nat→ Nd
 e:Nat→ Ef
 now:Nat→ Int
 hT:Nat→ Int
 hV:Nat→ Int
 hB:Nat→ Int
 rs:Nat→ List RwE
 ra:Nat→ Option Addr
 rc:Nat→ Nat
 air:List Ms
 aa:Option Addr
 ac:Nat
 led:List Int
 la:Option Addr
 lc:Nat
 done:List RwE
 da:Option Addr
 dc:Nat
abbrev cellsNt(N:Nt):List Value:=[.pointer none,.pointer (some ⟨N.g 1,0,none⟩),.pointer (some ⟨N.g 2,0,none⟩),.pointer (some ⟨N.g 3,0,none⟩),
 .int .i64 (N.now 0),.int .i64 (N.now 1),.int .i64 (N.now 2),.int .i64 (N.now 3),
 .int .i64 (N.hT 0),.int .i64 (N.hV 0),.int .i64 (N.hB 0),.int .i64 (N.hT 1),.int .i64 (N.hV 1),.int .i64 (N.hB 1),.int .i64 (N.hT 2),.int .i64 (N.hV 2),.int .i64 (N.hB 2),.int .i64 (N.hT 3),.int .i64 (N.hV 3),.int .i64 (N.hB 3),
 .int .i64 0,.int .i64 0,.slice (N.ra 0) (N.rs 0).length (N.rc 0),.int .i64 0,.int .i64 0,.slice (N.ra 1) (N.rs 1).length (N.rc 1),.int .i64 0,.int .i64 0,.slice (N.ra 2) (N.rs 2).length (N.rc 2),.int .i64 0,.int .i64 0,.slice (N.ra 3) (N.rs 3).length (N.rc 3),
 .slice N.aa N.air.length N.ac,.slice N.la N.led.length N.lc,.slice N.da N.done.length N.dc]
def upd{α:Type}(f:Nat→ α)(k:Nat)(v:α):Nat→ α:=fun j=>if j=k then v else f j
theorem upd_same{α:Type}(f:Nat→ α)(k:Nat)(v:α):upd f k v k=v:= if_pos rfl
theorem upd_ne{α:Type}(f:Nat→ α){k j:Nat}(v:α)(h:j≠ k):upd f k v j=f j:=if_neg h
def Nt.mut(N:Nt)(X:Nat):Nat→ Prop:=fun k=>k= X∨(∃j,1≤j∧ j≤3∧ k=N.g j)∨blkOf N.aa=some k∨blkOf N.la=some k∨blkOf N.da=some k
structure NtP(w:World)(X:Nat)(N:Nt):Prop where
 nd:∀k,1≤k→ k≤3→ NdAt (N.mut X) (fun j=>j= N.g k) w (N.g k) (N.x k) (N.e k)
 gne:∀j k,1≤j→ j≤3→ 1≤k→ k≤3→ N.g j=N.g k→j= k
 gX:∀k,1≤k→ k≤3→ N.g k≠X
 rows:∀k,k≤3→ EntsAt (N.mut X) w (N.ra k) (N.rc k) (N.rs k)
 air:OwnO w 59 14 N.aa N.air.length N.ac (N.air.flatMap cellsMs)
 msgs:∀m∈ N.air,MsAt (N.mut X) w m
 led:OwnO w 3 1 N.la N.led.length N.lc (N.led.map (Value.int .i64))
 don:OwnO w 79 5 N.da N.done.length N.dc (N.done.flatMap cellsRw)
 dones:∀y∈ N.done,YAt (N.mut X) w y
 sa:∀k,blkOf N.aa=some k→k≠ X∧(∀j,1≤j→ j≤3→ k≠N.g j)∧blkOf N.la≠some k∧blkOf N.da≠some k
 sl:∀k,blkOf N.la=some k→k≠ X∧(∀j,1≤j→ j≤3→ k≠N.g j)∧blkOf N.da≠some k
 sd:∀k,blkOf N.da=some k→k≠ X∧(∀j,1≤j→ j≤3→ k≠N.g j)
theorem NdAt.kept{S T:Nat→ Prop}{w w':World}{g q:Nat}{x:Nd}{e:Ef}(h:NdAt S T w g x e)(hk:Keep (fun k=>k= q) w w')(hq:S q)(hne:g≠ q):NdAt S T w' g x e:=
 have hT:∀k,k=q→ Un S T k:=fun k h5=>by rw[h5];exact .inl hq
 have hn:∀k,k<w.heap.size→ Un S T k→Un S T k:=fun _ _ h5=>h5
 ⟨h.bex.block (hk.block g h.lt hne),h.tg,h.os.le hk.size,h.ot.le hk.size,h.dr.step hk hT hn,h.drc,h.ent.step hk hT hn,h.eq,h.pr.step hk hT hn,h.prc,h.prn⟩
theorem NtP.old{w:World}{X:Nat}{N:Nt}(h:NtP w X N)(hX:X< w.heap.size):Old (N.mut X) w:=fun k h5=>by
 rcases h5 with h5|⟨j,h6,h7,h5⟩|h5| h5|h5
 ·rw[h5];exact hX
 ·rw[h5];exact(h.nd j h6 h7).lt
 ·exact h.air.lt k h5
 ·exact h.led.lt k h5
 ·exact h.don.lt k h5
structure Mv(w w':World)(q:Nat)(M M':Nat→ Prop):Prop where
 keep:Keep (fun k=>k= q) w w'
 mq:M q
 grow:∀k,M' k→M k∨w.heap.size≤ k
 old:Old M' w'
section
variable {w w':World} {X q:Nat} {N:Nt} {M M':Nat→ Prop}
theorem NtP.nodes(h:NtP w X N)(v:Mv w w' q (N.mut X) M'){k:Nat}(h1:1≤ k)(h3:k≤ 3)(hne:N.g k≠q):NdAt M' (fun j=>j= N.g k) w' (N.g k) (N.x k) (N.e k):=
 (h.nd k h1 h3).both ((h.nd k h1 h3).kept v.keep v.mq hne) v.grow v.old
theorem Mv.ents(v:Mv w w' q M M'){a:Option Addr}{c:Nat}{es:List RwE}(h:EntsAt M w a c es):EntsAt M' w' a c es:=h.both (h.step v.keep (fun k h5=>by rw[h5];exact v.mq) (fun _ _ h5=>h5)) v.grow
theorem Mv.ms(v:Mv w w' q M M'){m:Ms}(h:MsAt M w m):MsAt M' w' m:=h.both (h.step v.keep (fun k h5=>by rw[h5];exact v.mq) (fun _ _ h5=>h5)) v.grow
theorem Mv.y(v:Mv w w' q M M'){y:RwE}(h:YAt M w y):YAt M' w' y:=⟨h.row.both (h.row.step v.keep (fun k h5=>by rw[h5];exact v.mq) (fun _ _ h5=>h5)) v.grow,h.len,h.le,h.nil⟩
theorem Mv.own(v:Mv w w' q M M'){e:TypeId}{size n c:Nat}{a:Option Addr}{xs:List Value}(h:OwnO w e size a n c xs)(hq:blkOf a≠some q):OwnO w' e size a n c xs:=h.keep (fun k hk=>v.keep.block k (h.lt k hk) (fun h5=>hq (h5▸hk)))
end
theorem NtP.wroteX{w w':World}{X:Nat}{N:Nt}(h:NtP w X N)(hX:X< w.heap.size)(hw:Wrote X w w'):NtP w' X N:=
 have v:Mv w w' X (N.mut X) (N.mut X):=⟨Keep.wrote hw rfl,.inl rfl,fun _ h5=> .inl h5,(h.old hX).le (Nat.le_of_eq hw.size.symm)⟩
 ⟨fun k h1 h3=>h.nodes v h1 h3 (h.gX k h1 h3),h.gne,h.gX,fun k h3=>v.ents (h.rows k h3),v.own h.air (fun h5=>(h.sa X h5).1 rfl),fun m hm=>v.ms (h.msgs m hm),v.own h.led (fun h5=>(h.sl X h5).1 rfl),v.own h.don (fun h5=>(h.sd X h5).1 rfl),fun y hy=>v.y (h.dones y hy),h.sa,h.sl,h.sd⟩
theorem NtP.next{w w':World}{X:Nat}{N:Nt}(h:NtP w X N)(hb:Below w.heap.size w w'):NtP w' X N:=
 ⟨fun k h1 h3=>(h.nd k h1 h3).next hb,h.gne,h.gX,fun k h3=>(h.rows k h3).below hb,h.air.keep (fun k hk=>hb.block k (h.air.lt k hk)),fun m hm=>(h.msgs m hm).below hb,h.led.keep (fun k hk=>hb.block k (h.led.lt k hk)),h.don.keep (fun k hk=>hb.block k (h.don.lt k hk)),fun y hy=>(h.dones y hy).step (Keep.of (T:=fun _=>False) hb) (fun _ h5=>h5.elim) (fun _ _ h5=>h5),h.sa,h.sl,h.sd⟩
theorem NtP.air_upd{w w':World}{X:Nat}{N:Nt}{aa:Option Addr}{ac:Nat}{l:List Ms}(h:NtP w X N)(hX:X< w.heap.size)(hk:Keep (fun k=>blkOf N.aa=some k) w w')(ho:OwnO w' 59 14 aa l.length ac (l.flatMap cellsMs))(hn:∀j,blkOf aa=some j→blkOf N.aa=some j∨w.heap.size≤ j)(hm:∀m∈ l,MsAt (N.mut X) w m):NtP w' X {N with air:=l,aa:=aa,ac:=ac}:=by
 have hs:∀k,blkOf aa=some k→k< w'.heap.size:=ho.lt;have hM:∀k,({N with air:=l,aa:=aa,ac:=ac}:Nt).mut X k→N.mut X k∨w.heap.size≤ k:=fun k h5=>by
  rcases h5 with h5|h5| h5|h5| h5
  ·exact .inl (.inl h5)
  ·exact .inl (.inr (.inl h5))
  ·rcases hn k h5 with h6|h6
   ·exact .inl (.inr (.inr (.inl h6)))
   ·exact .inr h6
  ·exact .inl (.inr (.inr (.inr (.inl h5))))
  ·exact .inl (.inr (.inr (.inr (.inr h5))))
 have hO:Old (({N with air:=l,aa:=aa,ac:=ac}:Nt).mut X) w':=fun k h5=>by
  rcases h5 with h5|⟨j,h6,h7,h5⟩|h5| h5|h5
  ·rw[h5];exact Nat.lt_of_lt_of_le hX hk.size
  ·rw[h5];exact Nat.lt_of_lt_of_le (h.nd j h6 h7).lt hk.size
  ·exact hs k h5
  ·exact Nat.lt_of_lt_of_le (h.led.lt k h5) hk.size
  ·exact Nat.lt_of_lt_of_le (h.don.lt k h5) hk.size
 have hT:∀k,blkOf N.aa=some k→N.mut X k:=fun k h5=> .inr (.inr (.inl h5))
 have hU:∀S: Nat→Prop,∀k,blkOf N.aa=some k→Un (N.mut X) S k:=fun S k h5=> .inl (hT k h5)
 have hnn:∀(U:Nat→ Prop) k,k<w.heap.size→ U k→U k:=fun _ _ _ h5=>h5
 refine⟨fun k h1 h3=> ?_,h.gne,h.gX,fun k h3=>(h.rows k h3).both ((h.rows k h3).step hk hT (hnn _)) hM,ho,fun m h5=>(hm m h5).both ((hm m h5).step hk hT (hnn _)) hM,h.led.keep (fun k h5=>hk.block k (h.led.lt k h5) (fun h6=>(h.sa k h6).2.2.1 h5)),h.don.keep (fun k h5=>hk.block k (h.don.lt k h5) (fun h6=>(h.sa k h6).2.2.2 h5)),fun y hy=>⟨(h.dones y hy).row.both ((h.dones y hy).row.step hk hT (hnn _)) hM,(h.dones y hy).len,(h.dones y hy).le,(h.dones y hy).nil⟩,fun k h5=>by
  rcases hn k h5 with h6|h6
  ·exact h.sa k h6
  ·exact⟨by omega,fun j h1 h3 h7=>by have h8:k= N.g j:=h7;have:=(h.nd j h1 h3).lt;omega,fun h7=>by have:=h.led.lt k h7;omega,fun h7=>by have:=h.don.lt k h7;omega⟩,h.sl,h.sd⟩
 have hd:=h.nd k h1 h3;have hd2:NdAt (N.mut X) (fun j=>j= N.g k) w' (N.g k) (N.x k) (N.e k):=⟨hd.bex.block (hk.block _ hd.lt (fun h6=>(h.sa _ h6).2.1 k h1 h3 rfl)),rfl,hd.os.le hk.size,hd.ot.le hk.size,hd.dr.step hk (hU _) (hnn _),hd.drc,hd.ent.step hk (hU _) (hnn _),hd.eq,hd.pr.step hk (hU _) (hnn _),hd.prc,hd.prn⟩;exact hd.both hd2 hM hO
theorem NtP.led_upd{w w':World}{X:Nat}{N:Nt}{aa:Option Addr}{ac:Nat}{l:List Int}(h:NtP w X N)(hX:X< w.heap.size)(hk:Keep (fun k=>blkOf N.la=some k) w w')(ho:OwnO w' 3 1 aa l.length ac (l.map (Value.int .i64)))(hn:∀j,blkOf aa=some j→blkOf N.la=some j∨w.heap.size≤ j):NtP w' X {N with led:=l,la:=aa,lc:=ac}:=by
 have hs:∀k,blkOf aa=some k→k< w'.heap.size:=ho.lt;have hM:∀k,({N with led:=l,la:=aa,lc:=ac}:Nt).mut X k→N.mut X k∨w.heap.size≤ k:=fun k h5=>by
  rcases h5 with h5|h5| h5|h5| h5
  ·exact .inl (.inl h5)
  ·exact .inl (.inr (.inl h5))
  ·exact .inl (.inr (.inr (.inl h5)))
  ·rcases hn k h5 with h6|h6
   ·exact .inl (.inr (.inr (.inr (.inl h6))))
   ·exact .inr h6
  ·exact .inl (.inr (.inr (.inr (.inr h5))))
 have hO:Old (({N with led:=l,la:=aa,lc:=ac}:Nt).mut X) w':=fun k h5=>by
  rcases h5 with h5|⟨j,h6,h7,h5⟩|h5| h5|h5
  ·rw[h5];exact Nat.lt_of_lt_of_le hX hk.size
  ·rw[h5];exact Nat.lt_of_lt_of_le (h.nd j h6 h7).lt hk.size
  ·exact Nat.lt_of_lt_of_le (h.air.lt k h5) hk.size
  ·exact hs k h5
  ·exact Nat.lt_of_lt_of_le (h.don.lt k h5) hk.size
 have hT:∀k,blkOf N.la=some k→N.mut X k:=fun k h5=> .inr (.inr (.inr (.inl h5)))
 have hU:∀S: Nat→Prop,∀k,blkOf N.la=some k→Un (N.mut X) S k:=fun S k h5=> .inl (hT k h5)
 have hnn:∀(U:Nat→ Prop) k,k<w.heap.size→ U k→U k:=fun _ _ _ h5=>h5
 refine⟨fun k h1 h3=> ?_,h.gne,h.gX,fun k h3=>(h.rows k h3).both ((h.rows k h3).step hk hT (hnn _)) hM,h.air.keep (fun k h5=>hk.block k (h.air.lt k h5) (fun h6=>(h.sa k h5).2.2.1 h6)),fun m h5=>(h.msgs m h5).both ((h.msgs m h5).step hk hT (hnn _)) hM,ho,h.don.keep (fun k h5=>hk.block k (h.don.lt k h5) (fun h6=>(h.sl k h6).2.2 h5)),fun y hy=>⟨(h.dones y hy).row.both ((h.dones y hy).row.step hk hT (hnn _)) hM,(h.dones y hy).len,(h.dones y hy).le,(h.dones y hy).nil⟩,fun k h5=>⟨(h.sa k h5).1,(h.sa k h5).2.1,fun h7=>by
  rcases hn k h7 with h6|h6
  ·exact(h.sa k h5).2.2.1 h6
  ·have:=h.air.lt k h5;omega,(h.sa k h5).2.2.2⟩,fun k h5=>by
  rcases hn k h5 with h6|h6
  ·exact h.sl k h6
  ·exact⟨by omega,fun j h1 h3 h7=>by have h8:k= N.g j:=h7;have:=(h.nd j h1 h3).lt;omega,fun h7=>by have:=h.don.lt k h7;omega⟩,h.sd⟩
 have hd:=h.nd k h1 h3;have hd2:NdAt (N.mut X) (fun j=>j= N.g k) w' (N.g k) (N.x k) (N.e k):=⟨hd.bex.block (hk.block _ hd.lt (fun h6=>(h.sl _ h6).2.1 k h1 h3 rfl)),rfl,hd.os.le hk.size,hd.ot.le hk.size,hd.dr.step hk (hU _) (hnn _),hd.drc,hd.ent.step hk (hU _) (hnn _),hd.eq,hd.pr.step hk (hU _) (hnn _),hd.prc,hd.prn⟩;exact hd.both hd2 hM hO
theorem NtP.don_upd{w w':World}{X:Nat}{N:Nt}{aa:Option Addr}{ac:Nat}{l:List RwE}(h:NtP w X N)(hX:X< w.heap.size)(hk:Keep (fun k=>blkOf N.da=some k) w w')(ho:OwnO w' 79 5 aa l.length ac (l.flatMap cellsRw))(hn:∀j,blkOf aa=some j→blkOf N.da=some j∨w.heap.size≤ j)(hm:∀y∈ l,YAt (N.mut X) w y):NtP w' X {N with done:=l,da:=aa,dc:=ac}:=by
 have hs:∀k,blkOf aa=some k→k< w'.heap.size:=ho.lt;have hM:∀k,({N with done:=l,da:=aa,dc:=ac}:Nt).mut X k→N.mut X k∨w.heap.size≤ k:=fun k h5=>by
  rcases h5 with h5|h5| h5|h5| h5
  ·exact .inl (.inl h5)
  ·exact .inl (.inr (.inl h5))
  ·exact .inl (.inr (.inr (.inl h5)))
  ·exact .inl (.inr (.inr (.inr (.inl h5))))
  ·rcases hn k h5 with h6|h6
   ·exact .inl (.inr (.inr (.inr (.inr h6))))
   ·exact .inr h6
 have hO:Old (({N with done:=l,da:=aa,dc:=ac}:Nt).mut X) w':=fun k h5=>by
  rcases h5 with h5|⟨j,h6,h7,h5⟩|h5| h5|h5
  ·rw[h5];exact Nat.lt_of_lt_of_le hX hk.size
  ·rw[h5];exact Nat.lt_of_lt_of_le (h.nd j h6 h7).lt hk.size
  ·exact Nat.lt_of_lt_of_le (h.air.lt k h5) hk.size
  ·exact Nat.lt_of_lt_of_le (h.led.lt k h5) hk.size
  ·exact hs k h5
 have hT:∀k,blkOf N.da=some k→N.mut X k:=fun k h5=> .inr (.inr (.inr (.inr h5)))
 have hU:∀S: Nat→Prop,∀k,blkOf N.da=some k→Un (N.mut X) S k:=fun S k h5=> .inl (hT k h5)
 have hnn:∀(U:Nat→ Prop) k,k<w.heap.size→ U k→U k:=fun _ _ _ h5=>h5
 refine⟨fun k h1 h3=> ?_,h.gne,h.gX,fun k h3=>(h.rows k h3).both ((h.rows k h3).step hk hT (hnn _)) hM,h.air.keep (fun k h5=>hk.block k (h.air.lt k h5) (fun h6=>(h.sa k h5).2.2.2 h6)),fun m h5=>(h.msgs m h5).both ((h.msgs m h5).step hk hT (hnn _)) hM,h.led.keep (fun k h5=>hk.block k (h.led.lt k h5) (fun h6=>(h.sl k h5).2.2 h6)),ho,fun y hy=>⟨(hm y hy).row.both ((hm y hy).row.step hk hT (hnn _)) hM,(hm y hy).len,(hm y hy).le,(hm y hy).nil⟩,fun k h5=>⟨(h.sa k h5).1,(h.sa k h5).2.1,(h.sa k h5).2.2.1,fun h7=>by
  rcases hn k h7 with h6|h6
  ·exact(h.sa k h5).2.2.2 h6
  ·have:=h.air.lt k h5;omega⟩,fun k h5=>⟨(h.sl k h5).1,(h.sl k h5).2.1,fun h7=>by
  rcases hn k h7 with h6|h6
  ·exact(h.sl k h5).2.2 h6
  ·have:=h.led.lt k h5;omega⟩,fun k h5=>by
  rcases hn k h5 with h6|h6
  ·exact h.sd k h6
  ·exact⟨by omega,fun j h1 h3 h7=>by have h8:k= N.g j:=h7;have:=(h.nd j h1 h3).lt;omega⟩⟩
 have hd:=h.nd k h1 h3;have hd2:NdAt (N.mut X) (fun j=>j= N.g k) w' (N.g k) (N.x k) (N.e k):=⟨hd.bex.block (hk.block _ hd.lt (fun h6=>(h.sd _ h6).2 k h1 h3 rfl)),rfl,hd.os.le hk.size,hd.ot.le hk.size,hd.dr.step hk (hU _) (hnn _),hd.drc,hd.ent.step hk (hU _) (hnn _),hd.eq,hd.pr.step hk (hU _) (hnn _),hd.prc,hd.prn⟩;exact hd.both hd2 hM hO
theorem NtP.node{w w':World}{X k:Nat}{N:Nt}{T':Nat→ Prop}{x':Nd}{e':Ef}(h:NtP w X N)(hX:X< w.heap.size)(h1:1≤ k)(h3:k≤ 3)(hs:Stp (fun j=>j= N.g k) w T' w')(hn:NdAt (N.mut X) T' w' (N.g k) x' e'):NtP w' X {N with x:=upd N.x k x',e:=upd N.e k e'}:=by
 have v:Mv w w' (N.g k) (N.mut X) (N.mut X):=⟨hs.keep,.inr (.inl ⟨k,h1,h3,rfl⟩),fun _ h5=> .inl h5,(h.old hX).le hs.keep.size⟩;refine⟨fun j j1 j3=> ?_,h.gne,h.gX,fun j j3=>v.ents (h.rows j j3),v.own h.air (fun h5=>(h.sa _ h5).2.1 k h1 h3 rfl),fun m hm=>v.ms (h.msgs m hm),v.own h.led (fun h5=>(h.sl _ h5).2.1 k h1 h3 rfl),v.own h.don (fun h5=>(h.sd _ h5).2 k h1 h3 rfl),fun y hy=>v.y (h.dones y hy),h.sa,h.sl,h.sd⟩;by_cases e:j= k
 ·subst e;show NdAt (N.mut X) (fun i=>i= N.g j) w' (N.g j) (upd N.x j x' j) (upd N.e j e' j)
  rw[upd_same,upd_same];exact hn.sub (fun _ h5=>h5) (fun i h5=>by rw[h5];exact hn.tg) rfl
 ·show NdAt (N.mut X) (fun i=>i= N.g j) w' (N.g j) (upd N.x k x' j) (upd N.e k e' j)
  rw[upd_ne _ _ e,upd_ne _ _ e];exact h.nodes v j1 j3 (fun h5=>e (h.gne j k j1 j3 h1 h3 h5))
theorem NtP.fresh{w w':World}{X k gn:Nat}{N:Nt}{x':Nd}{e':Ef}(h:NtP w X N)(hX:X< w.heap.size)(hb:Below w.heap.size w w')(hg:w.heap.size≤ gn)(hn:NdAt (N.mut X) (fun j=>j= gn) w' gn x' e'):NtP w' X {N with g:=upd N.g k gn,x:=upd N.x k x',e:=upd N.e k e'}:=by
 have hM2:∀i,({N with g:=upd N.g k gn,x:=upd N.x k x',e:=upd N.e k e'}:Nt).mut X i→N.mut X i∨i= gn:=fun i h5=>by
  rcases h5 with h5|⟨j,h6,h7,h5⟩|h5| h5|h5
  ·exact .inl (.inl h5)
  ·by_cases e:j= k
   ·subst e;have h8:i= upd N.g j gn j:=h5;rw[upd_same]at h8;exact .inr h8
   ·have h8:i= upd N.g k gn j:=h5;rw[upd_ne _ _ e]at h8;exact .inl (.inr (.inl ⟨j,h6,h7,h8⟩))
  ·exact .inl (.inr (.inr (.inl h5)))
  ·exact .inl (.inr (.inr (.inr (.inl h5))))
  ·exact .inl (.inr (.inr (.inr (.inr h5))))
 have hM:∀i,({N with g:=upd N.g k gn,x:=upd N.x k x',e:=upd N.e k e'}:Nt).mut X i→N.mut X i∨w.heap.size≤ i:=fun i h5=>(hM2 i h5).imp id (fun h6=>by omega)
 have hgl:gn< w'.heap.size:=hn.lt;have hO:Old (({N with g:=upd N.g k gn,x:=upd N.x k x',e:=upd N.e k e'}:Nt).mut X) w':=fun i h5=>by
  rcases h5 with h5|⟨j,h6,h7,h5⟩|h5| h5|h5
  ·rw[h5];exact Nat.lt_of_lt_of_le hX hb.size
  ·by_cases e:j= k
   ·subst e;have h8:i= upd N.g j gn j:=h5;rw[upd_same]at h8;omega
   ·have h8:i= upd N.g k gn j:=h5;rw[upd_ne _ _ e]at h8;rw[h8];exact Nat.lt_of_lt_of_le (h.nd j h6 h7).lt hb.size
  ·exact Nat.lt_of_lt_of_le (h.air.lt i h5) hb.size
  ·exact Nat.lt_of_lt_of_le (h.led.lt i h5) hb.size
  ·exact Nat.lt_of_lt_of_le (h.don.lt i h5) hb.size
 have h':=h.next hb;have hgne:∀j,j≠k→ 1≤j→ j≤3→ N.g j≠gn:= fun j _ j1 j3 h5=>by have:=(h.nd j j1 j3).lt;omega
 have hsep:∀i,i<w.heap.size→ (∀j,1≤j→ j≤3→ i≠N.g j)→∀j,1≤j→ j≤3→ i≠upd N.g k gn j:=fun i hi h5 j j1 j3=>by
  by_cases e:j= k
  ·subst e;rw[upd_same];omega
  ·rw[upd_ne _ _ e];exact h5 j j1 j3
 refine⟨fun j j1 j3=> ?_,fun i j i1 i3 j1 j3 h5=> ?_,fun j j1 j3=> ?_,fun j j3=>(h.rows j j3).both (h'.rows j j3) hM,h'.air,fun m hm=>(h.msgs m hm).both (h'.msgs m hm) hM,h'.led,h'.don,fun y hy=>⟨(h.dones y hy).row.both (h'.dones y hy).row hM,(h.dones y hy).len,(h.dones y hy).le,(h.dones y hy).nil⟩,fun i h5=>⟨(h.sa i h5).1,hsep i (h.air.lt i h5) (h.sa i h5).2.1,(h.sa i h5).2.2⟩,fun i h5=>⟨(h.sl i h5).1,hsep i (h.led.lt i h5) (h.sl i h5).2.1,(h.sl i h5).2.2⟩,fun i h5=>⟨(h.sd i h5).1,hsep i (h.don.lt i h5) (h.sd i h5).2⟩⟩
 ·by_cases e:j= k
  ·subst e;show NdAt _ (fun i=>i= upd N.g j gn j) w' (upd N.g j gn j) (upd N.x j x' j) (upd N.e j e' j)
   rw[upd_same,upd_same,upd_same];have hU:∀i,Un (({N with g:=upd N.g j gn,x:=upd N.x j x',e:=upd N.e j e'}:Nt).mut X) (fun i=>i= gn) i→Un (N.mut X) (fun i=>i= gn) i:=fun i h5=>h5.elim (hM2 i) .inr
   exact⟨hn.bex,rfl,hO,hn.ot,hn.dr.mono hU,hn.drc,hn.ent.mono hU,hn.eq,hn.pr.mono hU,hn.prc,hn.prn⟩
  ·show NdAt _ (fun i=>i= upd N.g k gn j) w' (upd N.g k gn j) (upd N.x k x' j) (upd N.e k e' j)
   rw[upd_ne _ _ e,upd_ne _ _ e,upd_ne _ _ e];exact(h.nd j j1 j3).both (h'.nd j j1 j3) hM hO
 ·have h6:upd N.g k gn i=upd N.g k gn j:=h5;by_cases e:i= k
  ·subst e;by_cases e2:j= i
   ·exact e2.symm
   ·rw[upd_same,upd_ne _ _ e2]at h6;exact absurd h6.symm (hgne j e2 j1 j3)
  ·by_cases e2:j= k
   ·subst e2;rw[upd_same,upd_ne _ _ e]at h6;exact absurd h6 (hgne i e i1 i3)
   ·rw[upd_ne _ _ e,upd_ne _ _ e2]at h6;exact h.gne i j i1 i3 j1 j3 h6
 ·show upd N.g k gn j≠X
  by_cases e:j= k
  ·subst e;rw[upd_same];omega
  ·rw[upd_ne _ _ e];exact h.gX j j1 j3
section
variable {N:Nt} {k:Nat}
theorem nt_ptr(h1:1≤ k)(h3:k≤ 3):(cellsNt N)[k]? =some (.pointer (some ⟨N.g k,0,none⟩)):=by
 rcases(by omega:k= 1∨k= 2∨k= 3)with rfl|rfl| rfl<;>rfl
theorem tq71 {P:Prop}(h:P:=by
 rcases(by omega:k= 0∨k= 1∨k= 2∨k= 3)with rfl|rfl| rfl|rfl<;>rfl):P:=h
theorem nt_now(h3:k≤ 3):(cellsNt N)[4+k]? =some (.int .i64 (N.now k)):=by
 exact tq71
theorem nt_ht(h3:k≤ 3):(cellsNt N)[8+k* 3]? =some (.int .i64 (N.hT k)):=by
 exact tq71
theorem nt_rw(h3:k≤ 3):(cellsNt N)[20+k* 3]? =some (.int .i64 0)∧(cellsNt N)[20+k* 3+1]? =some (.int .i64 0)∧(cellsNt N)[20+k* 3+2]? =some (.slice (N.ra k) (N.rs k).length (N.rc k)):=by
 rcases(by omega:k= 0∨k= 1∨k= 2∨k= 3)with rfl|rfl| rfl|rfl<;>exact ⟨rfl,rfl,rfl⟩
theorem nt_hset(h3:k≤ 3)(t v b:Int):(cellsNt N).take (8+k* 3)++([.int .i64 t,.int .i64 v,.int .i64 b]++(cellsNt N).drop (8+k* 3+3))=cellsNt {N with hT:=upd N.hT k t,hV:=upd N.hV k v,hB:=upd N.hB k b}:=by
 exact tq71
theorem nt_rset(h3:k≤ 3)(a:Option Addr)(fs:List RwE)(c:Nat):(cellsNt N).take (20+k* 3)++([.int .i64 0,.int .i64 0,.slice a fs.length c]++(cellsNt N).drop (20+k* 3+3))=cellsNt {N with rs:=upd N.rs k fs,ra:=upd N.ra k a,rc:=upd N.rc k c}:=by
 exact tq71
end
theorem NtP.hard{w:World}{X k:Nat}{N:Nt}(h:NtP w X N)(t v b:Int):NtP w X {N with hT:=upd N.hT k t,hV:=upd N.hV k v,hB:=upd N.hB k b}:=⟨h.nd,h.gne,h.gX,h.rows,h.air,h.msgs,h.led,h.don,h.dones,h.sa,h.sl,h.sd⟩
theorem NtP.unhard{w:World}{X:Nat}{N:Nt}{a b c:Nat→ Int}(h:NtP w X {N with hT:=a,hV:=b,hB:=c}):NtP w X N:=by
 obtain⟨h1,h2,h3,h4,h5,h6,h7,h8,h9,h10,h11,h12⟩:=h;exact⟨h1,h2,h3,h4,h5,h6,h7,h8,h9,h10,h11,h12⟩
theorem NtP.rowsU{w:World}{X k:Nat}{N:Nt}(h:NtP w X N){a:Option Addr}{c:Nat}{fs:List RwE}(hf:EntsAt (N.mut X) w a c fs):NtP w X {N with rs:=upd N.rs k fs,ra:=upd N.ra k a,rc:=upd N.rc k c}:=
 ⟨h.nd,h.gne,h.gX,fun j h3=>by
  by_cases e:j= k
  ·subst e;show EntsAt _ w (upd N.ra j a j) (upd N.rc j c j) (upd N.rs j fs j)
   rw[upd_same,upd_same,upd_same];exact hf
  ·show EntsAt _ w (upd N.ra k a j) (upd N.rc k c j) (upd N.rs k fs j)
   rw[upd_ne _ _ e,upd_ne _ _ e,upd_ne _ _ e];exact h.rows j h3,h.air,h.msgs,h.led,h.don,h.dones,h.sa,h.sl,h.sd⟩
theorem Nt.lo_air{N:Nt}{X B:Nat}{w:World}{a:Option Addr}{c:Nat}{l:List Ms}(hlo:∀j,N.mut X j→B≤ j)(hB:B≤ w.heap.size)(hn:∀j,blkOf a=some j→blkOf N.aa=some j∨w.heap.size≤ j):∀j,({N with air:=l,aa:=a,ac:=c}:Nt).mut X j→B≤ j:=fun j h5=>by
 rcases h5 with h5|h5| h5|h5| h5
 ·exact hlo j (.inl h5)
 ·exact hlo j (.inr (.inl h5))
 ·rcases hn j h5 with h6|h6
  ·exact hlo j (.inr (.inr (.inl h6)))
  ·omega
 ·exact hlo j (.inr (.inr (.inr (.inl h5))))
 ·exact hlo j (.inr (.inr (.inr (.inr h5))))
theorem Nt.lo_led{N:Nt}{X B:Nat}{w:World}{a:Option Addr}{c:Nat}{l:List Int}(hlo:∀j,N.mut X j→B≤ j)(hB:B≤ w.heap.size)(hn:∀j,blkOf a=some j→blkOf N.la=some j∨w.heap.size≤ j):∀j,({N with led:=l,la:=a,lc:=c}:Nt).mut X j→B≤ j:=fun j h5=>by
 rcases h5 with h5|h5| h5|h5| h5
 ·exact hlo j (.inl h5)
 ·exact hlo j (.inr (.inl h5))
 ·exact hlo j (.inr (.inr (.inl h5)))
 ·rcases hn j h5 with h6|h6
  ·exact hlo j (.inr (.inr (.inr (.inl h6))))
  ·omega
 ·exact hlo j (.inr (.inr (.inr (.inr h5))))
theorem Nt.lo_done{N:Nt}{X B:Nat}{w:World}{a:Option Addr}{c:Nat}{l:List RwE}(hlo:∀j,N.mut X j→B≤ j)(hB:B≤ w.heap.size)(hn:∀j,blkOf a=some j→blkOf N.da=some j∨w.heap.size≤ j):∀j,({N with done:=l,da:=a,dc:=c}:Nt).mut X j→B≤ j:=fun j h5=>by
 rcases h5 with h5|h5| h5|h5| h5
 ·exact hlo j (.inl h5)
 ·exact hlo j (.inr (.inl h5))
 ·exact hlo j (.inr (.inr (.inl h5)))
 ·exact hlo j (.inr (.inr (.inr (.inl h5))))
 ·rcases hn j h5 with h6|h6
  ·exact hlo j (.inr (.inr (.inr (.inr h6))))
  ·omega
theorem wpList_set_own{P:Program}{e t:TypeId}{ops:Array Oper}{rest:List Oper}{op:Oper}{a:Act}{w:World}{Q:Exit→ Act→World→ Prop}(hgd:op.guard= none)(x y:Operand)(ho:op.op= .store t x y)(hi:(P.info? t).map (·.size)=some 1)(g q i n c:Nat)(xs:List Value)(v:Value)(hx:a.eval x= .pointer (some ⟨g,q+i,none⟩))(hy:a.eval y=v)(hv:v.cells= #[v])(h1:v.oneCell'= true)(hown:OwnO w e 1 (some ⟨g,q,none⟩) n c xs)(hlt:i< n)(h:∀w',OwnO w' e 1 (some ⟨g,q,none⟩) n c (xs.set i v)→Wrote g w w'→wpList P ops Q rest (a.put op.dst undef) w'):wpList P ops Q (op::rest) a w:=by
 obtain⟨hl,hnc,hcm,hr⟩:=hown;rcases hr with⟨hr,_⟩|⟨g',q',cur,he,hg,hsz,htk⟩
 ·cases hr
 ·simp only[Option.some.injEq,Addr.mk.injEq,and_true]at he;obtain⟨rfl,rfl⟩:=he;have hql:q+ i<cur.toList.length:= by simp only[Array.length_toList];omega
  refine wpList_plain hgd fun K hK=> ?_
  have hb:Bex w g cur.toList:=⟨e,by simpa using hg⟩;have hth:w.there g (q+i) 1:=fun j hj=>by
   have:=hb.box.there (q+i) hql;obtain rfl:j= 0:=o_;rw[Nat.zero_add]at this;exact this
  have hrun:(storeVar t ⟨g,q+i,none⟩ v).run P w= .ok () (w.setCell ⟨g,q+i,none⟩ v):=by
   have:=run_storeCells_cells (P:=P) g (q+i) [v] 0 w (fun j hj=>by simpa using (hth j (by simpa using hj)).1) (fun j hj=>by simpa using (hth j (by simpa using hj)).2) (fun u hu=>by simp at hu;subst hu;exact h1);cases hq:P.info? t with
   |none=> simp[hq]at hi
   |some q2=>
    have hs:q2.size= 1:=by simpa[hq]using hi
    simp only[Nat.add_zero]at this;simp[storeVar,sizeOf,typeInfo,hq,hv,hs,this,World.setCells]
  unfold Oper.wp execOp;simp only[ho,hx,hy,Instr.storeAt,Instr.sureAddr,Sem.run_bind,Sem.run_pure,Result.andThen_ok,hrun];refine hK _ _ (h _ ⟨by rw[List.length_set];exact hl,hnc,hcm,.inr ⟨g,q,cur.setIfInBounds (q+i) v,rfl,heap_setCell_same w g (q+i) cur e v hg,by rw[Array.size_setIfInBounds];exact hsz,?_⟩⟩ ⟨fun B hB=>(Below.refl B w).setCell (p:=⟨g,q+i,none⟩) hB v,by simp,fun k hk=>Below.heap_setCell _ _ _ _ (fun e=>hk e)⟩);rw[Array.toList_setIfInBounds,←htk,List.drop_set,if_neg o_,Nat.add_sub_cancel_left,List.take_set]
theorem op_build_rw{dst:Option Tmp}{t:TypeId}{p:String}{af:Array Edge}{gd:Option (Nat×Bool)}{a:Act}{w:World}{K:Act→ World→Prop}{Q:Exit→ Act→World→ Prop}(x:Operand)(z:RwE)(hx:a.eval x=layRw.val z)(h:∀w',Bex w' w.heap.size (cellsRw z)→Below w.heap.size w w'→w'.heap.size= w.heap.size+1→ K (a.put dst (.slice (some ⟨w.heap.size,0,none⟩) 1 1)) w'):Oper.wp Tryz.prog {dst:=dst,op:= .buildSlice 31 1 #[(0,x)],type:=t,pos:=p,after:=af,guard:=gd} a w K Q:=by
 obtain⟨⟨z0,z1,z2,z3,z4⟩,⟨q0,q1⟩⟩:=z;have hx':a.eval x= .agg #[.int .i64 z0,.int .i8 z1,.int .i64 z2,B z3,.slice q0 z4.length q1]:=hx;clear hx;unfold Oper.wp execOp;simp only[hx',List.map_toArray,List.map_cons,List.map_nil];go_simp;refine new_block ?_;exact h
end Go.Proofs.YtoeofkcpclfnhaaGreat
namespace Go.Proofs.YtoeofkcpclfnhaaGreat.Raf
set_option maxHeartbeats 16000000
variable {x:Sys WEnt} {T N k:Nat} {n:RN}
theorem merge_is{g:Gh WEnt}{es L:List WEnt}(h1:Good WEnt.term g es)(h2:Good WEnt.term g L):∀(l:List WEnt) (i:Nat),i≤es.length→ i+l.length≤ L.length→es.take i=L.take i→l= (L.drop i).take l.length→
 (mergeF es i l=es∧ es.take (i+l.length)=L.take (i+l.length))∨(mergeF es i l=L.take (i+l.length)∧∀j,j≤es.length→ es.take j=L.take j→j≤ i+l.length):=by
 intro l
 induction l with
 |nil=> intro i _ _ h3 _;exact .inl ⟨by unfold mergeF;rfl,h3⟩
 |cons y l ih=>
  intro i hi hl h3 h4;have hlen:(y::l).length=l.length+ 1:=rfl;rw[hlen]at hl h4;have hiL:i< L.length:=o_;have h5:y= L[i]∧l= (L.drop (i+1)).take l.length:=by
   rw[List.drop_eq_getElem_cons hiL,List.take_succ_cons]at h4;exact⟨(List.cons.inj h4).1,(List.cons.inj h4).2⟩
  obtain⟨hy,hl'⟩:=h5;have hrest:L.take i++y:: l=L.take (i+(y::l).length):=by
   rw[hlen,show i+(l.length+1)=i+ 1+l.length by omega,List.take_add,List.take_succ_eq_append_getElem hiL,←hl',←hy];simp
  unfold mergeF;rcases e:es[i]? with _|z
  ·have hge:es.length≤ i:=by
    rcases Nat.lt_or_ge i es.length with h|h
    ·rw[List.getElem?_eq_getElem h]at e;cases e
    ·exact h
   right;simp only;rw[h3];exact⟨hrest,fun j hj _=>by omega⟩
  ·have hlt:i< es.length:=by
    rcases Nat.lt_or_ge i es.length with h|h
    ·exact h
    ·rw[List.getElem?_eq_none h]at e;cases e
   rw[List.getElem?_eq_getElem hlt]at e;have e':=Option.some.inj e;simp only;by_cases ht:z.term= y.term
   ·rw[if_pos ht];have k1:=(h1 i hlt).2;have k2:=(h2 i hiL).2;rw[e',ht,hy]at k1;have k3:es.take (i+1)=L.take (i+1):=by rw[k1,k2]
    have k4:=ih (i+1) o_ o_ k3 hl';rw[show i+(y::l).length=i+ 1+l.length by rw[hlen];omega];exact k4
   ·rw[if_neg ht];right;rw[h3];refine⟨hrest,fun j hj hj2=> ?_⟩;refine Nat.le_of_not_lt fun hlt2=>ht ?_
    have:=get_of_take hj2 (j:=i) o_ hlt hiL;rw[e']at this;rw[this,hy]
theorem tq73 {P:Prop}(h:P:=by
 show(upd x.ns k _ v).term≤_
 by_cases e:v= k
 ·subst e;rw[upd_same];exact h.tb v
 ·rw[upd_ne _ _ e];exact h.tb v):P:=h
theorem to_take{p1:List WEnt}{p2:Int}(h:Ok x T N)(r:Rep n (x.ns k))(hs:n.self= k)(hk1:1≤ k)(hk7:k≤ 7){m:WMsg}(hm:OkM x m)(hk:m.kind= 3)(ht:m.term= n.hT)(hp:putR n.es m.index m.last m.entries=(p1,p2,true,0))(kn:Int)(j:Nat):
 To x T N k {n with es:=p1,com:=max n.com (min m.commit p2),role:=0,known:=kn} [tellF n j true p2]:=by
 obtain⟨src,dst,e1,e2,a1,a2,a3,a4,a5,_,_,h3,_⟩:=hm;obtain⟨e,i,c,hel,hi,hiL,hlast,hent,hc,hcL,hcom⟩:=h3 hk;rw[ht]at hel hiL hlast hent hcL hcom a5;have hpl:i+ m.entries.length≤(x.g.L n.hT).length:=by
  have:=congrArg List.length hent;rw[List.length_take,List.length_drop]at this;omega
 unfold putR at hp;rw[hi]at hp
 split at hp
 ·cases hp
 ·split at hp
  ·cases hp
  ·rename_i hle
   split at hp
   ·cases hp
   ·rename_i hterm
    split at hp
    ·have hp1:mergeF n.es i m.entries=p1:= congrArg Prod.fst hp;have hp2:(i:Int)+m.entries.length= p2:=congrArg (fun q=>q.2.1) hp;have hile:i≤ n.es.length:=o_;have hlogk:=r.log;have hg1:Good WEnt.term x.g n.es:=by rw[←hlogk];exact h.inv.log k
     have hg2:=h.inv.hist.good n.hT;have hagree:n.es.take i=(x.g.L n.hT).take i:=by
      rcases i with _|i
      ·rfl
      ·have t1:termR 0 0 n.es ((i+1: Nat):Int)=m.last:= Classical.byContradiction hterm;rw[termR_get hile,hlast,lt_take _ o_,lt_take _ o_]at t1;have k1:=(hg1 i o_).2;have k2:=(hg2 i o_).2;rw[t1]at k1;rw[k1,k2]
     have hmerge:=merge_is hg1 hg2 m.entries i hile hpl hagree hent;have htk:=r.term
     have hinv:=h.inv.take_over (v:=k) (l:=p1) (n:=i+ m.entries.length) (c:=(max n.com (min m.commit p2)).toNat) (k:=src) (m:=e) (by rw[htk];exact hel) (by rw[htk];exact hpl) (by
      rw[hlogk,htk,←hp1];exact hmerge) (by
      have hcn:=r.com;rw[hc,←hp2];by_cases hmx:n.com≤ min (c:Int) ((i:Int)+m.entries.length)
      ·right;rw[Int.max_eq_right hmx];have hmn:(min (c:Int) ((i:Int)+m.entries.length)).toNat=min c (i+m.entries.length):=o_;rw[hmn,htk];refine⟨Nat.min_le_right _ _,?_⟩;have:=hcom.take (i+m.entries.length);rw[List.take_take,Nat.min_comm]at this;exact this
      ·left
       rw[Int.max_eq_left o_];omega)
     refine⟨takeS x k p1 (i+m.entries.length) (max n.com (min m.commit p2)).toNat,⟨hinv,h.ge,h.len,fun v=> ?_⟩,Ext.take_over h.inv k _ _ _,fun j hj=>upd_ne _ _ hj,?_,fun m' hm'=> ?_⟩
     ·exact tq73
     ·show Rep _ (upd x.ns k _ k)
      rw[upd_same];have hcn:=r.com;exact⟨r.term,r.vote,rfl,rfl,by show((max n.com (min m.commit p2)).toNat:Int)=max n.com (min m.commit p2);omega,r.yes,r.mat,r.base⟩
     ·rw[List.mem_singleton.1 hm'];refine⟨?_,by show n.hT≤_;rw[←r.term];exact h.tb k⟩;refine⟨k,j,hs,rfl,hk1,hk7,(show(1:Int)≤4 by decide),(show(4:Int)≤4 by decide),a5,fun e=>absurd (show(4:Int)=1 from e) d_,fun e=>absurd (show(4:Int)=2 from e) d_,fun e=>absurd (show(4:Int)=3 from e) d_,fun _ _=>⟨i+m.entries.length,by show p2=_;rw[←hp2];simp,?_⟩⟩;show i+m.entries.length≤ if n.hT=(x.ns k).term∧k= k then _ else _
      rw[if_pos ⟨r.term.symm,rfl⟩];exact Nat.le_max_right _ _
    ·cases hp
theorem matOf_put(q:Prg)(j:Int):∀l: List Prg,matOf (putF l q) j=if j=q.node then q.mat else matOf l j
 |[]=>by
  show(if q.node=j then q.mat else 0)=_
  by_cases e:q.node= j
  ·rw[if_pos e,if_pos e.symm]
  ·rw[if_neg e,if_neg (fun h=>e h.symm)];rfl
 |a:: l=>by
  unfold putF;by_cases e:a.node= q.node
  ·rw[if_pos e];show(if q.node=j then q.mat else matOf l j)=if j=q.node then q.mat else if a.node=j then a.mat else matOf l j
   by_cases e2:q.node= j
   ·rw[if_pos e2,if_pos e2.symm]
   ·rw[if_neg e2,if_neg (fun h=>e2 h.symm),if_neg (fun h=>e2 (e▸h))]
  ·rw[if_neg e];show(if a.node=j then a.mat else matOf (putF l q) j)=if j=q.node then q.mat else if a.node=j then a.mat else matOf l j
   rw[matOf_put q j l];by_cases e2:a.node= j
   ·rw[if_pos e2,if_neg (fun h=>e (e2.trans h)),if_pos e2]
   ·rw[if_neg e2,if_neg e2]
theorem prog_is(n:RN)(j:Int):(progF n j).node=j∧ (progF n j).mat=matOf n.p j:=by
 unfold progF hasP prgOf;have key:∀l: List Prg,(∀q,l.find? (fun p=>decide (p.node=j))=some q→q.node= j∧q.mat= matOf l j)∧(l.find? (fun p=>decide (p.node=j))=none→ matOf l j=0):=fun l=>by
  induction l with
  |nil=> exact⟨(fun q h=>by cases h),fun _=>rfl⟩
  |cons a l ih=>
   by_cases e:a.node= j
   ·rw[List.find?_cons_of_pos (by simpa using e)];refine⟨fun q h=> ?_,(fun h=>by cases h)⟩;cases h
    exact⟨e,by show _=if a.node=j then a.mat else _;rw[if_pos e]⟩
   ·rw[List.find?_cons_of_neg (by simpa using e)];have e3:matOf (a::l) j=matOf l j:=by show(if a.node=j then a.mat else _)=_;rw[if_neg e]
    rw[e3];exact ih
 rcases h:n.p.find? (fun p=>decide (p.node=j))with _|q
 ·simp only[h,Option.isSome_none,Bool.false_eq_true,if_false];exact⟨trivial,((key n.p).2 h).symm⟩
 ·simp only[h,Option.isSome_some,if_true];exact(key n.p).1 q h
theorem to_told(h:Ok x T N)(r:Rep n (x.ns k))(hs:n.self= k)(hr:n.role= 2)(hN:N≤ 1000000){m:WMsg}(hm:OkM x m)(hk:m.kind= 4)(ht:m.term= n.hT)(hne:m.src≠ n.self):
 To x T N k {n with p:=putF n.p (toldF (progF n m.src) m.ok (min m.index n.es.length))} []:=by
 obtain⟨src,dst,e1,e2,a1,a2,a3,a4,a5,_,_,_,h4⟩:=hm;have hrn:(x.ns k).role=2:= r.role_nat hr;obtain⟨hel,hL,hack,hmat,hacc⟩:=h.inv.lead k hrn;obtain⟨p1,p2⟩:=prog_is n m.src;have hks:src≠ k:=fun e=>hne (by rw[e1,e,hs])
 have hm0:=hmat src hks;have hrm:=r.mat src;have hA:=h.inv.hist.ack (x.ns k).term src;have hLn:=h.len (x.ns k).term;have hlog:=r.log;have htk:=r.term;have hq:(toldF (progF n m.src) m.ok (min m.index n.es.length)).node=m.src:= by unfold toldF;split<;>exact p1
 have hnew:∃c: Nat,(toldF (progF n m.src) m.ok (min m.index n.es.length)).mat=(c:Int)∧c≤ x.g.ack (x.ns k).term src:=by
  rw[e1]at p2;have hcl:∀v: Int,0≤v→ v≤1000000→ cl 0 1099511627776 v=v:= fun v h1 h2=>by unfold cl;omega
  unfold toldF;rw[e1,p2,←hrm,hcl _ o_ o_];by_cases ho:m.ok= true
  ·rw[if_pos ho];obtain⟨i,hi,hia⟩:=h4 hk ho;rw[ht,←htk]at hia;rw[hi];have h5:cl 0 1099511627776 (min (i:Int) n.es.length)=min (i:Int) n.es.length:=hcl _ o_ o_;refine⟨max ((x.ns k).mat src) (min i n.es.length),?_,?_⟩
   ·show max (((x.ns k).mat src:Nat):Int) (cl 0 1099511627776 (min (i:Int) n.es.length))=_
    rw[h5];omega
   ·exact Nat.max_le.2 ⟨hm0,Nat.le_trans (Nat.min_le_left _ _) hia⟩
  ·rw[if_neg ho];exact⟨(x.ns k).mat src,rfl,hm0⟩
 obtain⟨c,hc,hca⟩:=hnew;refine⟨{x with ns:=upd x.ns k {x.ns k with mat:=fun j=>if j=src then c else(x.ns k).mat j}},⟨h.inv.node k _ rfl (Int.le_refl _) (h.inv.now k) (fun e=>by have e':(x.ns k).role=1:= e;omega) (fun _=>⟨hel,hL,hack,fun j hj=> ?_,hacc⟩) (h.inv.com k),h.ge,h.len,fun v=> ?_⟩,Ext.node x _,fun j hj=>upd_ne _ _ hj,?_,fun _ hm=>by cases hm⟩
 ·show(if j=src then c else(x.ns k).mat j)≤_
  by_cases e:j= src
  ·rw[if_pos e,e];exact hca
  ·rw[if_neg e];exact hmat j hj
 ·exact tq73
 ·show Rep _ (upd x.ns k _ k)
  rw[upd_same];refine⟨r.term,r.vote,r.log,r.role,r.com,r.yes,fun j=> ?_,r.base⟩;show((if j=src then c else(x.ns k).mat j:Nat):Int)=matOf (putF n.p _) j
  rw[matOf_put,hq];by_cases e:j= src
  ·have e6:(j:Int)=m.src:= by rw[e1,e]
   rw[if_pos e,if_pos e6];exact hc.symm
  ·rw[if_neg e,if_neg (by rw[e1];omega)];exact r.mat j
variable {x:Sys WEnt} {T N k:Nat} {n:RN}
theorem size_none{s:Nat}:∀i,sizeS s i=0→ ∀j,j≤i→ inSet s j=false
 |0,_,j,hj=>by rw[Nat.le_zero.1 hj];unfold inSet;simp
 |i+ 1,h,j,hj=>by
  have h':sizeS s i+(if inSet s (i+1)then 1 else 0)=0:= h;by_cases e:j= i+1
  ·subst e;cases hb:inSet s (i+1)
   ·rfl
   ·rw[hb]at h';simp at h'
  ·exact size_none i o_ j o_
theorem size_one{s:Nat}:∀i,sizeS s i=1→ ∃c,∀j,j≤i→ j≠c→ inSet s j=false
 |0,h=>by cases h
 |i+ 1,h=>by
  have h':sizeS s i+(if inSet s (i+1)then 1 else 0)=1:= h;cases hb:inSet s (i+1)
  ·rw[hb]at h';obtain⟨c,hc⟩:=size_one i (by simpa using h');refine⟨c,fun j hj hjc=> ?_⟩;by_cases e:j= i+1
   ·subst e;exact hb
   ·exact hc j o_ hjc
  ·rw[hb]at h';refine⟨i+1,fun j hj hjc=>size_none i (by simpa using h') j o_⟩
theorem inSet_big(s j:Nat)(h:7< j):inSet s j=false:= by
 unfold inSet;rw[decide_eq_false_iff_not];omega
theorem inSet_xor(a b j:Nat)(h:inSet (a ^^^ b) j=false):inSet a j=inSet b j:=by
 by_cases hj:1≤ j∧j≤ 7
 ·unfold inSet at h ⊢;have e:∀s: Nat,s/2^ (j-1)%2= 1↔s.testBit (j-1)=true:= fun s=>by
   rw[Nat.testBit_eq_decide_div_mod_eq];simp
  rw[decide_eq_decide,e,e];rw[decide_eq_false_iff_not,e,Nat.testBit_xor]at h;have h':(a.testBit (j-1) ^^ b.testBit (j-1))=false:= by
   cases hx:(a.testBit (j-1) ^^ b.testBit (j-1))
   ·rfl
   ·exact absurd ⟨hj.1,hj.2,hx⟩ h
  have:a.testBit (j-1)=b.testBit (j-1):=by
   revert h';cases a.testBit (j-1)<;>cases b.testBit (j-1)<;>decide
  rw[this]
 ·unfold inSet;rw[decide_eq_decide];constructor
  ·rintro⟨h1,h2,_⟩;exact absurd ⟨h1,h2⟩ hj
  ·rintro⟨h1,h2,_⟩;exact absurd ⟨h1,h2⟩ hj
theorem size_pop(s:Nat):sizeS s 7≤pop8 s:=by
 have e:∀j,1≤j→ j≤7→ (if inSet s j then 1 else 0)=s/ 2^(j-1)%2:= fun j h1 h2=>by
  unfold inSet;by_cases h:s/ 2^(j-1)%2= 1
  ·rw[if_pos (decide_eq_true ⟨h1,h2,h⟩),h]
  ·rw[if_neg (by simp[h])];have:=Nat.mod_lt (s/2^ (j-1)) (show 0<2 by decide);omega
 show 0+_+ _+_+ _+_+ _+_≤ _
 rw[e 1 d_ d_,e 2 d_ d_,e 3 d_ d_,e 4 d_ d_,e 5 d_ d_,e 6 d_ d_,e 7 d_ d_];unfold pop8;simp only[Nat.reduceSub,Nat.reducePow,Nat.div_one];omega
theorem near_close{a b:Nat}(h:nearB a b=true):Close (fun j=>inSet b j) (fun j=>inSet a j):=by
 unfold nearB at h;rw[Bool.and_eq_true,Bool.and_eq_true]at h;have h1:=of_decide_eq_true h.2;have h2:=size_pop (a ^^^ b);obtain⟨c,hc⟩:∃c,∀j,j≤7→ j≠c→ inSet (a ^^^ b) j=false:= by
  by_cases h0:sizeS (a ^^^ b) 7=0
  ·exact⟨0,fun j hj _=>size_none 7 h0 j hj⟩
  ·exact size_one 7 o_
 refine⟨c,fun j hj=> ?_⟩;by_cases e:j≤ 7
 ·exact(inSet_xor a b j (hc j e hj)).symm
 ·show inSet b j=inSet a j
  rw[inSet_big _ _ o_,inSet_big _ _ o_]
theorem latI_go(l:List WEnt):∀(s:UInt8) (q i:Nat),q≤i→ q≤(l.foldl (fun(r:(UInt8×Nat)×Nat) x=>((if x.kind=1 then(x.set,r.2+1)else r.1),r.2+1)) ((s,q),i)).1.2∧
 ∀a (h:a< l.length),l[a].kind=1→ i+a+ 1≤(l.foldl (fun(r:(UInt8×Nat)×Nat) x=>((if x.kind=1 then(x.set,r.2+1)else r.1),r.2+1)) ((s,q),i)).1.2:=by
 induction l with
 |nil=> intro s q i h;exact⟨Nat.le_refl _,fun a h=>by cases h⟩
 |cons x l ih=>
  intro s q i h;rw[List.foldl_cons];by_cases e:x.kind= 1
  ·rw[if_pos e];obtain⟨h1,h2⟩:=ih x.set (i+1) (i+1) n_;refine⟨Nat.le_trans o_ h1,fun a ha hk=> ?_⟩;rcases a with _|a
   ·exact h1
   ·exact Nat.le_trans (show i+(a+1)+1≤ i+1+ a+1 by omega) (h2 a (by simpa using ha) hk)
  ·rw[if_neg e];obtain⟨h1,h2⟩:=ih s q (i+1) o_;refine⟨h1,fun a ha hk=> ?_⟩;rcases a with _|a
   ·exact absurd hk e
   ·exact Nat.le_trans (show i+(a+1)+1≤ i+1+ a+1 by omega) (h2 a (by simpa using ha) hk)
theorem latI_le(b:UInt8)(l:List WEnt){a:Nat}(h:a< l.length)(hk:l[a].kind=1):a+ 1≤(latS b l).2:=by
 have:=(latI_go l b 0 0 n_).2 a h hk;rw[Nat.zero_add]at this;exact this
theorem Hist.terms_le{g:Gh WEnt}{c0:Nat→ Bool}(H:Hist WEnt.term cfE c0 g){t:Int}{q:Nat}{m:List WEnt}(he:g.el t=some (q,m)){j:Nat}(hj:j< (g.L t).length):(g.L t)[j].term≤t:= by
 obtain⟨r,k1,k2⟩:=H.own _ _ _ he;have hm:(g.L t)[j]∈m++ r:=by rw[←k1];exact List.getElem_mem hj
 rcases List.mem_append.1 hm with h3|h3
 ·obtain⟨i,hi,hix⟩:=List.getElem_of_mem h3;have w:=H.win _ _ _ he;have h4:=H.le_lt w.good hi;have:=w.low;rw[hix]at h4;omega
 ·rw[k2 _ h3];exact Int.le_refl _
theorem to_put(h:Ok x T N)(r:Rep n (x.ns k))(hr:n.role= 2){e:WEnt}(he:e.term= n.hT)(hok:okR 0 0 (n.es++[e])=true)(hrule:e.kind= 1→freeF n=true∧ nearB e.set.toNat n.set=true):To x T (N+1) k {n with es:=n.es++ [e]} []:=by
 have hrn:(x.ns k).role=2:= r.role_nat hr;have hlog:=r.log;have htk:=r.term;obtain⟨_,hl⟩:=h.good (h.inv.log k)
 have hinv:=h.inv.put (e:=e) hrn (by rw[he,htk]) (fun c hc=>by
  unfold cfE at hc
  split at hc
  ·rename_i hk
   cases hc
   obtain⟨hf,hnr⟩:=hrule hk;unfold freeF at hf;rw[Bool.and_eq_true]at hf;have hat:=of_decide_eq_true hf.1;obtain⟨i,hi,hi2⟩:=List.any_eq_true.1 hf.2;rw[Bool.and_eq_true]at hi2;have hi3:=of_decide_eq_true hi2.1;have hi4:=of_decide_eq_true hi2.2;have hil:i< n.es.length:=List.mem_range.1 hi;rw[List.getD_eq_getElem?_getD,List.getElem?_eq_getElem hil]at hi4;have hi5:(n.es[i]).term=n.hT:= hi4;obtain⟨c1,c2⟩:=h.inv.com k;rw[hlog,htk]at c2;rw[hlog]at c1;have hcn:=r.com;have hcert:∃a b,x.g.cert n.hT a b∧(x.ns k).com≤a:= by
    rcases c2 with c2|⟨s,a,b,k1,k2,k3,k4⟩
    ·have:=congrArg List.length c2;rw[List.length_take,Nat.min_eq_left c1]at this;simp at this;omega
    ·rw[List.length_take,Nat.min_eq_left c1]at k3 k4;obtain⟨_,_,_,k5,_⟩:=h.inv.hist.cert _ _ _ k2;have hab:=(h.inv.hist.cert _ _ _ k2).2.2.1;have k6:=get_of_take k4 (j:=i) o_ hil o_;obtain⟨⟨q,mm⟩,hel⟩:=Option.isSome_iff_exists.1 (h.inv.hist.cert _ _ _ k2).1;have k7:=h.inv.hist.terms_le hel (j:=i) o_;rw[←k6,hi5]at k7;have:s= n.hT:=o_;subst this;exact⟨a,b,k2,k3⟩
   obtain⟨a,b,k1,k2⟩:=hcert;refine⟨by rw[r.set];exact near_close hnr,⟨a,b,by rw[htk];exact k1⟩,fun i' hi' _ hc'=>⟨a,b,by rw[htk];exact k1,?_⟩⟩;have hi'':i'< n.es.length:=by rw[←hlog];exact hi'
   rw[get_congr hlog hi' hi'']at hc';unfold cfE at hc'
   split at hc'
   ·rename_i hk2
    have:=latI_le n.base n.es hi'' hk2;omega
   ·cases hc'
  ·cases hc)
 obtain⟨hel,hL,_⟩:=h.inv.lead k hrn;have hge:goodEs 0 (n.es++[e])=true:= (okR_iff.1 hok).2;refine⟨putS x k e,⟨hinv,fun t=> ?_,fun t=> ?_,fun v=> ?_⟩,Ext.put h.inv hrn e,fun j hj=>upd_ne _ _ hj,?_,fun _ hm=>by cases hm⟩
 ·show goodEs 0 (updT x.g.L _ _ t)=true
  by_cases e1:t= (x.ns k).term
  ·subst e1;rw[updT_same,hlog];exact hge
  ·rw[updT_ne _ _ e1];exact h.ge t
 ·show(updT x.g.L _ _ t).length≤_
  by_cases e1:t= (x.ns k).term
  ·subst e1;rw[updT_same,List.length_append];show(x.ns k).log.length+1≤ _;omega
  ·rw[updT_ne _ _ e1];have:=h.len t;omega
 ·show(upd x.ns k _ v).term≤_
  by_cases e1:v= k
  ·subst e1;rw[upd_same];exact h.tb v
  ·rw[upd_ne _ _ e1];exact h.tb v
 ·show Rep _ (upd x.ns k _ k)
  rw[upd_same];exact⟨r.term,r.vote,by show(x.ns k).log++[e]=_;rw[hlog],r.role,r.com,r.yes,r.mat,r.base⟩
theorem Rep.any{y:Nd WEnt}{m:RN}(r:Rep n y)(h1:m.hT= n.hT)(h2:m.hV= n.hV)(h3:m.es= n.es)(h4:m.role= n.role)(h5:m.com= n.com)(h6:m.yes= n.yes)(h7:m.p= n.p)(h8:m.base= n.base):Rep m y:=
 ⟨by rw[h1];exact r.term,by rw[h2];exact r.vote,by rw[h3];exact r.log,by rw[h4];exact r.role,by rw[h5];exact r.com,by rw[h6];exact r.yes,by rw[h7];exact r.mat,by rw[h8];exact r.base⟩
theorem to_leadF(h:Ok x T N)(r:Rep n (x.ns k))(hs:n.self= k)(hk1:1≤ k)(hk7:k≤ 7)(hr:n.role= 1)(hm:majB n.set n.yes.toNat=true)(hN:N< 4096)(now:Int):To x T (N+1) k (leadF n now).1 (leadF n now).2:=by
 obtain⟨h1,h2⟩:=to_lead h r hs hr hm hN n.beat;have e2:putEF {n with role:=2,known:=n.self,p:=beginF 0 0 n.es n.set n.self} ⟨n.hT,0,0,0,[]⟩={n with role:=2,known:=n.self,p:=beginF 0 0 n.es n.set n.self,es:=n.es++ [⟨n.hT,0,0,0,[]⟩]}:=h2;show To x T (N+1) k (countF {putEF {n with role:=2,known:=n.self,p:=beginF 0 0 n.es n.set n.self} ⟨n.hT,0,0,0,[]⟩with beat:=now+ n.pulse}) (allF (putEF {n with role:=2,known:=n.self,p:=beginF 0 0 n.es n.set n.self} ⟨n.hT,0,0,0,[]⟩))
 rw[h2]at h1;rw[e2];have h3:=h1.more (ms':=allF {n with role:=2,known:=n.self,p:=beginF 0 0 n.es n.set n.self,es:=n.es++ [⟨n.hT,0,0,0,[]⟩]}) (fun y hy ry _=>okM_all hy (Rep.any ry rfl rfl rfl rfl rfl rfl rfl rfl) hs rfl hk1 hk7);have h4:=h3.bind o_ (fun y hy ry _=>to_count (n:={n with role:=2,known:=n.self,p:=beginF 0 0 n.es n.set n.self,es:=n.es++ [⟨n.hT,0,0,0,[]⟩],beat:=now+ n.pulse}) hy (Rep.any ry rfl rfl rfl rfl rfl rfl rfl rfl) hs);simpa using h4
theorem to_electF(h:Ok x T N)(r:Rep n (x.ns k))(hs:n.self= k)(hk1:1≤ k)(hk7:k≤ 7)(hN:N< 4096)(now:Int):To x (T+1) (N+1) k (electF n now).1 (electF n now).2:=by
 have r':=r.again now;have hs':(again n now).self=k:= (again_is n now).1.trans hs;unfold electF;simp only;generalize again n now=n' at r' hs' ⊢
 split
 ·have h1:=to_stand h r' hk1 hk7 hs'
  split
  ·rename_i hm
   exact h1.bind o_ (fun y hy ry _=>to_leadF hy ry hs' hk1 hk7 rfl hm hN now)
  ·exact h1.mono n_ (Nat.le_succ _)
 ·exact(To.here h r').mono (Nat.le_succ _) (Nat.le_succ _)
theorem to_tickF(h:Ok x T N)(r:Rep n (x.ns k))(hs:n.self= k)(hk1:1≤ k)(hk7:k≤ 7)(hN:N< 4096)(now:Int):To x (T+1) (N+1) k (tickF n now).1 (tickF n now).2:=by
 unfold tickF
 split
 ·rename_i hb
  have h1:To x T N k {n with beat:=now+ n.pulse} []:=To.here h (Rep.any r rfl rfl rfl rfl rfl rfl rfl rfl);have h2:=h1.more (ms':=allF n) (fun y hy ry _=>okM_all hy (Rep.any ry rfl rfl rfl rfl rfl rfl rfl rfl) hs hb.1 hk1 hk7);have h3:=h2.bind o_ (fun y hy ry _=>to_end hy ry);exact(by simpa using h3:To x T N k (endF {n with beat:=now+ n.pulse}) (allF n)).mono (Nat.le_succ _) (Nat.le_succ _)
 ·split
  ·have h3:=(to_electF h r hs hk1 hk7 hN now).bind o_ (fun y hy ry _=>to_end hy ry);simpa using h3
  ·exact(to_end h r).mono (Nat.le_succ _) (Nat.le_succ _)
theorem to_propF(h:Ok x T N)(r:Rep n (x.ns k))(hs:n.self= k)(hk1:1≤ k)(hk7:k≤ 7){e:WEnt}{q:RN× List WMsg}(hq:propF n e=some q):To x T (N+1) k q.1 q.2:=by
 unfold propF at hq
 split at hq
 ·cases hq
 ·rename_i hr
  simp only at hq
  split at hq
  ·cases hq
  ·rename_i hok
   split at hq
   ·cases hq
   ·rename_i hrule
    split at hq
    ·cases hq
    ·cases hq
     have hr':n.role= 2:=Classical.byContradiction hr
     have h1:=to_put (e:={e with term:=n.hT}) h r hr' rfl (by simpa using hok) (fun hk=>by
      constructor
      ·cases hf:freeF n
       ·exact absurd ⟨hk,.inl hf⟩ hrule
       ·rfl
      ·cases hf:nearB e.set.toNat n.set
       ·exact absurd ⟨hk,.inr hf⟩ hrule
       ·rfl)
     have h2:=h1.more (ms':=allF {n with es:=n.es++ [{e with term:=n.hT}]}) (fun y hy ry _=>okM_all hy ry hs hr' hk1 hk7);have h3:=h2.bind o_ (fun y hy ry _=>to_count hy ry hs);have h4:=h3.bind o_ (fun y hy ry _=>to_end hy ry);simpa using h4
end Go.Proofs.YtoeofkcpclfnhaaGreat.Raf
