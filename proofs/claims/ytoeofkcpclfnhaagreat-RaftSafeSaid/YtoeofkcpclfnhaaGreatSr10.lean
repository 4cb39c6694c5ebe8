import Derived.Test.YtoeofkcpclfnhaaGreatSr04
import Derived.Test.YtoeofkcpclfnhaaGreatSr09
set_option linter.unusedVariables false
set_option linter.unusedSimpArgs false
namespace Go.Proofs.YtoeofkcpclfnhaaGreat
open Go.ChangeShapes Go.WideShapes Go.ChangeAt Go.RowKit
set_option maxRecDepth 100000
set_option maxHeartbeats 16000000
def FRow(U:Nat→ Prop)(w:World)(a:Option Addr)(xs:List Value):Prop:= Row w a xs∧(xs≠[]→∀b o s,a=some ⟨b,o,s⟩→¬U b)
theorem FRow.row{U:Nat→ Prop}{w:World}{a:Option Addr}{xs:List Value}(h:FRow U w a xs):Row w a xs:=h.1
theorem FRow.lt{U:Nat→ Prop}{w:World}{a:Option Addr}{xs:List Value}(h:FRow U w a xs)(h0:xs≠ []):∀b o s,a=some ⟨b,o,s⟩→b< w.heap.size:=fun b o s e=>by
 rcases h.1 with h1|⟨b1,o1,h1,hc⟩
 ·exact absurd h1 h0
 ·rw[e]at h1;simp only[Option.some.injEq,Addr.mk.injEq]at h1;obtain⟨rfl,rfl,rfl⟩:=h1;exact Row.lt (.inr ⟨b,o,rfl,hc⟩) h0
theorem FRow.nil(U:Nat→ Prop)(w:World)(a:Option Addr):FRow U w a []:=⟨.inl rfl,fun h=>absurd rfl h⟩
structure Keep(T:Nat→ Prop)(w w':World):Prop where
 os:w'.os= w.os
 tape:w'.tape= w.tape
 output:w'.output= w.output
 size:w.heap.size≤ w'.heap.size
 block:∀k,k<w.heap.size→ ¬T k→w'.heap[k]? =w.heap[k]?
theorem Keep.refl(T:Nat→ Prop)(w:World):Keep T w w:=⟨rfl,rfl,rfl,Nat.le_refl _,fun _ _ _=>rfl⟩
theorem Keep.trans{T:Nat→ Prop}{w w' w'':World}(h:Keep T w w')(k:Keep T w' w''):Keep T w w'':=⟨k.os.trans h.os,k.tape.trans h.tape,k.output.trans h.output,Nat.le_trans h.size k.size,fun j hj hT=>(k.block j (Nat.lt_of_lt_of_le hj h.size) hT).trans (h.block j hj hT)⟩
theorem Keep.of{T:Nat→ Prop}{w w':World}(h:Below w.heap.size w w'):Keep T w w':=⟨h.os,h.tape,h.output,h.size,fun k hk _=>h.block k hk⟩
theorem Keep.wrote{T:Nat→ Prop}{g:Nat}{w w':World}(h:Wrote g w w')(hg:T g):Keep T w w':=
 ⟨(h.below 0 (Nat.zero_le _)).os,(h.below 0 (Nat.zero_le _)).tape,(h.below 0 (Nat.zero_le _)).output,Nat.le_of_eq h.size.symm,fun k _ hk=>h.keep k (fun e=>hk (by rw[e];exact hg))⟩
theorem Keep.mono{T T':Nat→ Prop}{w w':World}(h:Keep T w w')(hT:∀k,T k→T' k):Keep T' w w':=⟨h.os,h.tape,h.output,h.size,fun k hk h1=>h.block k hk (fun h2=>h1 (hT k h2))⟩
theorem Keep.only{g:Nat}{w w':World}(h:Keep (fun k=>k= g) w w'):Only g w w':=⟨h.os,h.tape,h.output,h.size,h.block⟩
theorem Only.kept{g:Nat}{w w':World}(h:Only g w w'){T:Nat→ Prop}(hg:T g):Keep T w w':=⟨h.os,h.tape,h.output,h.size,fun k hk h1=>h.block k hk (fun e=>h1 (by rw[e];exact hg))⟩
theorem Keep.below{T:Nat→ Prop}{w w':World}(h:Keep T w w'){B:Nat}(hB:B≤ w.heap.size)(hT:∀k,T k→B≤ k):Below B w w':=⟨h.os,h.tape,h.output,h.size,fun k hk=>h.block k o_ (fun h1=>by have:=hT k h1;omega)⟩
theorem Keep.grown{T:Nat→ Prop}{w w':World}{r:Option Nat}(h:w.grownBy w' r)(hT:∀k,r=some k→T k):Keep T w w':=⟨h.os,h.tape,h.output,h.size,fun k hk h1=>h.block k hk (fun e=>h1 (hT k e.symm))⟩
structure Stp(T:Nat→ Prop)(w:World)(T':Nat→ Prop)(w':World):Prop where
 keep:Keep T w w'
 up:∀k,T k→T' k
 new:∀k,k<w.heap.size→ T' k→T k
 old:∀k,T' k→T k∨k< w'.heap.size
theorem Stp.of_keep{T:Nat→ Prop}{w w':World}(h:Keep T w w'):Stp T w T w':=⟨h,fun _ h=>h,fun _ _ h=>h,fun _ h=> .inl h⟩
theorem Stp.refl(T:Nat→ Prop)(w:World):Stp T w T w:= .of_keep (.refl _ _)
theorem Stp.below{T:Nat→ Prop}{w w':World}(h:Below w.heap.size w w'):Stp T w T w':= .of_keep (.of h)
theorem Stp.wrote{T:Nat→ Prop}{g:Nat}{w w':World}(h:Wrote g w w')(hg:T g):Stp T w T w':= .of_keep (.wrote h hg)
theorem Stp.trans{T T' T'':Nat→ Prop}{w w' w'':World}(h:Stp T w T' w')(k:Stp T' w' T'' w''):Stp T w T'' w'' where
 keep:=⟨k.keep.os.trans h.keep.os,k.keep.tape.trans h.keep.tape,k.keep.output.trans h.keep.output,Nat.le_trans h.keep.size k.keep.size,fun j hj hT=>
  (k.keep.block j (Nat.lt_of_lt_of_le hj h.keep.size) (fun h1=>hT (h.new j hj h1))).trans (h.keep.block j hj hT)⟩
 up j hj:=k.up j (h.up j hj)
 new j hj h1:=h.new j hj (k.new j (Nat.lt_of_lt_of_le hj h.keep.size) h1)
 old j hj:=by
  rcases k.old j hj with h1|h1
  ·rcases h.old j h1 with h2|h2
   ·exact .inl h2
   ·exact .inr (Nat.lt_of_lt_of_le h2 k.keep.size)
  ·exact .inr h1
theorem Stp.next{T T':Nat→ Prop}{w w' w'':World}(h:Stp T w T' w')(hb:Below w'.heap.size w' w''):Stp T w T' w'':=h.trans (.below hb)
theorem Stp.write{T T':Nat→ Prop}{g:Nat}{w w' w'':World}(h:Stp T w T' w')(hw:Wrote g w' w'')(hg:T g):Stp T w T' w'':=h.trans (.wrote hw (h.up g hg))
abbrev Old(T:Nat→ Prop)(w:World):Prop:= ∀k,T k→k< w.heap.size
theorem Old.le{T:Nat→ Prop}{w w':World}(h:Old T w)(hs:w.heap.size≤ w'.heap.size):Old T w':=fun k hk=>Nat.lt_of_lt_of_le (h k hk) hs
theorem Old.stp{T T':Nat→ Prop}{w w':World}(h:Old T w)(hs:Stp T w T' w'):Old T' w':=fun k hk=>by
 rcases hs.old k hk with h1|h1
 ·exact Nat.lt_of_lt_of_le (h k h1) hs.keep.size
 ·exact h1
abbrev Un(S T:Nat→ Prop):Nat→ Prop:=fun k=>S k∨T k
theorem FRow.step{U U' T:Nat→ Prop}{w w':World}{a:Option Addr}{xs:List Value}(h:FRow U w a xs)(hk:Keep T w w')(hT:∀k,T k→U k)(hn:∀k,k<w.heap.size→ U' k→U k):FRow U' w' a xs:=by
 by_cases h0:xs= []
 ·subst h0;exact .nil _ _ _
 ·have hl:=h.lt h0;rcases h.1 with h1|⟨b,o,ha,hc⟩
  ·exact absurd h1 h0
  ·have hb:=hl b o none ha;refine⟨.inr ⟨b,o,ha,fun i hi=> ?_⟩,fun _ b' o' s' e=> ?_⟩
   ·rw[World.cell?_of_block (a:=⟨b,o+i,none⟩) (hk.block b hb (fun h1=>h.2 h0 b o none ha (hT b h1)))];exact hc i hi
   ·exact fun h1=>h.2 h0 b' o' s' e (hn b' (hl b' o' s' e) h1)
theorem FRow.stp{S T T':Nat→ Prop}{w w':World}{a:Option Addr}{xs:List Value}(h:FRow (Un S T) w a xs)(hs:Stp T w T' w'):FRow (Un S T') w' a xs:=
 h.step hs.keep (fun _ h=> .inr h) (fun k hk h1=>h1.imp id (hs.new k hk))
theorem FRow.below{U:Nat→ Prop}{w w':World}{a:Option Addr}{xs:List Value}(h:FRow U w a xs)(hb:Below w.heap.size w w'):FRow U w' a xs:=h.step (Keep.of (T:=fun _=>False) hb) (fun _ h=>h.elim) (fun _ _ h=>h)
theorem FRow.mono{U U':Nat→ Prop}{w:World}{a:Option Addr}{xs:List Value}(h:FRow U w a xs)(hU:∀k,U' k→U k):FRow U' w a xs:=⟨h.1,fun h0 b o s e h1=>h.2 h0 b o s e (hU b h1)⟩
theorem FRow.new{U:Nat→ Prop}{w w':World}{a:Option Addr}{xs:List Value}(h:Row w' a xs)(hn:xs≠ []→∀b o s,a=some ⟨b,o,s⟩→w.heap.size≤ b)(hU:Old U w):FRow U w' a xs:=⟨h,fun h0 b o s e h1=>by have:=hn h0 b o s e;have:=hU b h1;omega⟩
structure YAt(U:Nat→ Prop)(w:World)(y:RwE):Prop where
 row:FRow U w y.2.1 (y.1.data.map B)
 len:y.1.data.length≤ 1000000
 le:y.1.data.length≤ y.2.2
 nil:y.2.1= none→y.2.2= 0
theorem YAt.good{U:Nat→ Prop}{w:World}{y:RwE}(h:YAt U w y):RowB w y.2.1 y.1.data∧y.1.data.length≤ 1000000∧y.1.data.length≤ y.2.2∧(y.2.1=none→ y.2.2=0):=⟨h.row.1,h.len,h.le,h.nil⟩
theorem YAt.step{U U' T:Nat→ Prop}{w w':World}{y:RwE}(h:YAt U w y)(hk:Keep T w w')(hT:∀k,T k→U k)(hn:∀k,k<w.heap.size→ U' k→U k):YAt U' w' y:=⟨h.row.step hk hT hn,h.len,h.le,h.nil⟩
structure EntsAt(U:Nat→ Prop)(w:World)(a:Option Addr)(c:Nat)(es:List RwE):Prop where
 row:FRow U w a (es.flatMap cellsRw)
 le:es.length≤ c
 cm:c≤ maxLen
 nil:a= none→c= 0
 each:∀y∈ es,YAt U w y
theorem EntsAt.step{U U' T:Nat→ Prop}{w w':World}{a:Option Addr}{c:Nat}{es:List RwE}(h:EntsAt U w a c es)(hk:Keep T w w')(hT:∀k,T k→U k)(hn:∀k,k<w.heap.size→ U' k→U k):EntsAt U' w' a c es:=
 ⟨h.row.step hk hT hn,h.le,h.cm,h.nil,fun y hy=>(h.each y hy).step hk hT hn⟩
theorem EntsAt.stp{S T T':Nat→ Prop}{w w':World}{a:Option Addr}{c:Nat}{es:List RwE}(h:EntsAt (Un S T) w a c es)(hs:Stp T w T' w'):EntsAt (Un S T') w' a c es:=h.step hs.keep (fun _ h=> .inr h) (fun k hk h1=>h1.imp id (hs.new k hk))
theorem EntsAt.below{U:Nat→ Prop}{w w':World}{a:Option Addr}{c:Nat}{es:List RwE}(h:EntsAt U w a c es)(hb:Below w.heap.size w w'):EntsAt U w' a c es:=h.step (Keep.of (T:=fun _=>False) hb) (fun _ h=>h.elim) (fun _ _ h=>h)
theorem EntsAt.mono{U U':Nat→ Prop}{w:World}{a:Option Addr}{c:Nat}{es:List RwE}(h:EntsAt U w a c es)(hU:∀k,U' k→U k):EntsAt U' w a c es:=⟨h.row.mono hU,h.le,h.cm,h.nil,fun y hy=>⟨(h.each y hy).row.mono hU,(h.each y hy).len,(h.each y hy).le,(h.each y hy).nil⟩⟩
theorem EntsAt.zero(U:Nat→ Prop)(w:World):EntsAt U w none 0 []:=⟨.nil _ _ _,Nat.le_refl _,Nat.zero_le _,fun _=>rfl,fun y hy=>by cases hy⟩
theorem ents_len(es:List RwE):(ents es).length=es.length:= List.length_map _
theorem EntsAt.new{U:Nat→ Prop}{w w':World}{a:Option Addr}{c:Nat}{fs es:List RwE}(he:ents fs=ents es)(hr:Row w' a (fs.flatMap cellsRw))(hy:∀y∈ fs,RowB w' y.2.1 y.1.data)(hn:NewE w.heap.size a c fs)(hU:Old U w)(hl:∀y∈ es,y.1.data.length≤1000000):EntsAt U w' a c fs:=by
 refine⟨.new hr (fun h0=>hn.1 (fun e=>h0 (by rw[e];rfl))) hU,hn.2.1,hn.2.2.1,hn.2.2.2.1,fun y h=>⟨.new (hy y h) (fun h0=>(hn.2.2.2.2 y h).1 (fun e=>h0 (by rw[e];rfl))) hU,?_,(hn.2.2.2.2 y h).2.1,(hn.2.2.2.2 y h).2.2⟩⟩;have h1:y.1∈ ents es:=by rw[←he];exact List.mem_map_of_mem h
 obtain⟨z,hz,e⟩:=List.mem_map.1 h1;rw[←e];exact hl z hz
structure Ms where
 m:WMsg
 es:List RwE
 ea:Option Addr
 ec:Nat
abbrev cellsMs(x:Ms):List Value:=[.int .i8 x.m.kind,.int .i64 x.m.src,.int .i64 x.m.dst,.int .i64 x.m.term,.int .i64 x.m.index,.int .i64 x.m.last,.int .i64 x.m.commit,.bool x.m.ok,.slice x.ea x.es.length x.ec,.int .i64 0,.int .i64 0,.int .u8 0,.slice none 0 0,.slice none 0 0]
def layMs:Lay Tryz.prog 59 Ms:=Lay.struct cellsMs 14 160 (fun _=>rfl) d_ d_ (fun x u hu=>by simp only[cellsMs,List.mem_cons,List.not_mem_nil,or_false]at hu;rcases hu with h|h| h|h| h|h| h|h| h|h| h|h| h|h<;>subst h<;>rfl) k_ _ Tryz.underlying59 rfl
structure MsAt(U:Nat→ Prop)(w:World)(x:Ms):Prop where
 ent:EntsAt U w x.ea x.ec x.es
 eq:ents x.es=x.m.entries
theorem MsAt.step{U U' T:Nat→ Prop}{w w':World}{x:Ms}(h:MsAt U w x)(hk:Keep T w w')(hT:∀k,T k→U k)(hn:∀k,k<w.heap.size→ U' k→U k):MsAt U' w' x:=⟨h.ent.step hk hT hn,h.eq⟩
theorem MsAt.mono{U U':Nat→ Prop}{w:World}{x:Ms}(h:MsAt U w x)(hU:∀k,U' k→U k):MsAt U' w x:=⟨h.ent.mono hU,h.eq⟩
structure Hd where
 t:Int
 v:Int
 b:Int
abbrev cellsHd(x:Hd):List Value:=[.int .i64 x.t,.int .i64 x.v,.int .i64 x.b]
def layHd:Lay Tryz.prog 29 Hd:=Lay.struct cellsHd 3 24 (fun _=>rfl) d_ d_ (fun x u hu=>by simp at hu;rcases hu with h|h| h<;>subst h<;>rfl) k_ _ Tryz.underlying29 rfl
structure Rs where
 b:Int
 t:Int
 a:Option Addr
 n:Nat
 c:Nat
abbrev cellsRs(x:Rs):List Value:=[.int .i64 x.b,.int .i64 x.t,.slice x.a x.n x.c]
def layRs:Lay Tryz.prog 33 Rs:=Lay.struct cellsRs 3 40 (fun _=>rfl) d_ d_ (fun x u hu=>by simp at hu;rcases hu with h|h| h<;>subst h<;>rfl) k_ _ Tryz.underlying33 rfl
structure Ef where
 hd:Bool
 cut:Int
 al:List RwE
 aa:Option Addr
 ac:Nat
 sn:Bool
 sl:List Ms
 sa:Option Addr
 sc:Nat
 cm:Int
abbrev cellsEf(e:Ef):List Value:=[.bool e.hd,.int .i64 e.cut,.slice e.aa e.al.length e.ac,.bool e.sn,.slice e.sa e.sl.length e.sc,.int .i64 e.cm]
def layEf:Lay Tryz.prog 54 Ef:=Lay.struct cellsEf 6 80 (fun _=>rfl) d_ d_ (fun x u hu=>by simp at hu;rcases hu with h|h| h|h| h|h<;>subst h<;>rfl) k_ _ Tryz.underlying54 rfl
def layRf:Lay Tryz.prog 68 Ef:=Lay.struct cellsEf 6 80 (fun _=>rfl) d_ d_ (fun x u hu=>by simp at hu;rcases hu with h|h| h|h| h|h<;>subst h<;>rfl) k_ _ Tryz.underlying68 rfl
structure Nd where
 n:Raf.RN
 da:Option Addr
 dc:Nat
 es:List RwE
 ra:Option Addr
 rc:Nat
 pa:Option Addr
 pc:Nat
abbrev cellsN(x:Nd)(e:Ef):List Value:=[.bool e.hd,.int .i64 e.cut,.slice e.aa e.al.length e.ac,.bool e.sn,.slice e.sa e.sl.length e.sc,.int .i64 e.cm,
 .int .i64 x.n.self,B x.n.base,.int .i64 x.n.elect,.int .i64 x.n.pulse,.slice x.da x.n.draws.length x.dc,.int .i64 x.n.hT,.int .i64 x.n.hV,.int .i64 x.n.hB,.int .i64 0,.int .i64 0,.slice x.ra x.es.length x.rc,
 .int .i64 0,.int .i64 0,.int .u8 0,.slice none 0 0,B x.n.base,.int .i64 x.n.com,.int .i64 x.n.role,.int .i64 x.n.known,.int .i64 x.n.due,.int .i64 x.n.beat,.int .i64 x.n.drawn,B x.n.yes,.slice x.pa x.n.p.length x.pc]
structure NdAt(S T:Nat→ Prop)(w:World)(g:Nat)(x:Nd)(e:Ef):Prop where
 bex:Bex w g (cellsN x e)
 tg:T g
 os:Old S w
 ot:Old T w
 dr:FRow (Un S T) w x.da (x.n.draws.map (Value.int .i64))
 drc:x.n.draws.length≤ x.dc
 ent:EntsAt (Un S T) w x.ra x.rc x.es
 eq:ents x.es=x.n.es
 pr:FRow (Un S T) w x.pa (x.n.p.flatMap layPrg.cells)
 prc:x.n.p.length≤ x.pc
 prn:x.pa= none→x.pc= 0
theorem NdAt.lt{S T:Nat→ Prop}{w:World}{g:Nat}{x:Nd}{e:Ef}(h:NdAt S T w g x e):g< w.heap.size:=h.ot g h.tg
theorem NdAt.stp{S T T':Nat→ Prop}{w w':World}{g:Nat}{x:Nd}{e:Ef}(h:NdAt S T w g x e)(hs:Stp T w T' w')(hg:w'.heap[g]? =w.heap[g]?):NdAt S T' w' g x e:=
 ⟨h.bex.block hg,hs.up g h.tg,h.os.le hs.keep.size,h.ot.stp hs,h.dr.stp hs,h.drc,h.ent.stp hs,h.eq,h.pr.stp hs,h.prc,h.prn⟩
theorem NdAt.next{S T:Nat→ Prop}{w w':World}{g:Nat}{x:Nd}{e:Ef}(h:NdAt S T w g x e)(hb:Below w.heap.size w w'):NdAt S T w' g x e:=h.stp (.below hb) (hb.block g h.lt)
theorem NdAt.num{S T:Nat→ Prop}{w w':World}{g:Nat}{x:Nd}{e e':Ef}{n':Raf.RN}(h:NdAt S T w g x e)(hw:Wrote g w w')(hb:Bex w' g (cellsN {x with n:=n'} e'))(h1:n'.draws= x.n.draws)(h2:n'.es= x.n.es)(h3:n'.p= x.n.p):NdAt S T w' g {x with n:=n'} e':=by
 have hs:Stp T w T w':= .wrote hw h.tg;refine⟨hb,h.tg,h.os.le hs.keep.size,h.ot.stp hs,?_,?_,h.ent.stp hs,?_,?_,?_,h.prn⟩
 ·show FRow _ _ x.da (n'.draws.map _)
  rw[h1];exact h.dr.stp hs
 ·show n'.draws.length≤_
  rw[h1];exact h.drc
 ·show ents x.es=n'.es
  rw[h2];exact h.eq
 ·show FRow _ _ x.pa (n'.p.flatMap _)
  rw[h3];exact h.pr.stp hs
 ·show n'.p.length≤_
  rw[h3];exact h.prc
structure EfAt(S T:Nat→ Prop)(w:World)(g:Nat)(e:Ef):Prop where
 own:OwnO w 59 14 e.sa e.sl.length e.sc (e.sl.flatMap cellsMs)
 in_:∀k,blkOf e.sa=some k→T k∧k≠ g
 msgs:∀m∈ e.sl,MsAt (Un S T) w m
 add:EntsAt (Un S T) w e.aa e.ac e.al
 adl:e.al.length≤ 5000
 ns:∀k,blkOf e.sa=some k→¬S k
theorem EfAt.stp{S T T':Nat→ Prop}{w w':World}{g:Nat}{e:Ef}(h:EfAt S T w g e)(hs:Stp T w T' w')(hk:∀k,blkOf e.sa=some k→w'.heap[k]? =w.heap[k]?):EfAt S T' w' g e:=
 ⟨h.own.keep hk,fun k hk=>⟨hs.up k (h.in_ k hk).1,(h.in_ k hk).2⟩,fun m hm=>(h.msgs m hm).step hs.keep (fun _ h=> .inr h) (fun k hk h1=>h1.imp id (hs.new k hk)),h.add.stp hs,h.adl,h.ns⟩
theorem EfAt.next{S T:Nat→ Prop}{w w':World}{g:Nat}{e:Ef}(h:EfAt S T w g e)(hb:Below w.heap.size w w'):EfAt S T w' g e:=h.stp (.below hb) (fun k hk=>hb.block k (h.own.lt k hk))
theorem EfAt.wrote{S T:Nat→ Prop}{w w':World}{g:Nat}{e:Ef}(h:EfAt S T w g e)(hw:Wrote g w w')(hg:T g):EfAt S T w' g e:=h.stp (.wrote hw hg) (fun k hk=>hw.keep k (h.in_ k hk).2)
structure Gd(n:Raf.RN)(D:Nat):Prop where
 ok:okR 0 0 n.es=true
 lt:lastT 0 n.es≤n.hT
 len:n.es.length≤ 4000
 self1:1≤ n.self
 self7:n.self≤ 7
 el1:1≤ n.elect
 el2:n.elect≤ 1099511627776
 pu1:1≤ n.pulse
 pu2:n.pulse≤ 1099511627776
 dl:n.draws.length≤ 64
 t0:0≤ n.hT
 t1:n.hT≤ 1099511627776
 c0:0≤ n.com
 c1:n.com≤ n.es.length
 d0:0≤ n.drawn
 d1:n.drawn≤ D
 pl:n.p.length≤ D
 pb:∀q∈ n.p,InI q.next
 D1:D≤ 100000
theorem lat_third(b:UInt8)(l:List WEnt):∀(s:(UInt8×Nat)×Nat),(l.foldl (fun(r:(UInt8×Nat)×Nat) x=>((if x.kind=1 then(x.set,r.2+1)else r.1),r.2+1)) s).2=s.2+ l.length:=by
 induction l with
 |nil=> exact fun s=>rfl
 |cons x l ih=>intro s;rw[List.foldl_cons,ih,List.length_cons];show s.2+1+ l.length=_;omega
theorem latS_take(b:UInt8){l:List WEnt}{k:Nat}(h:k< l.length):Raf.latS b (l.take (k+1))=if l[k].kind=1 then(l[k].set,k+1)else Raf.latS b (l.take k):=by
 unfold Raf.latS;rw[List.take_succ_eq_append_getElem h,List.foldl_append];have h1:=lat_third b (l.take k) ((b,0),0);have h2:(l.take k).length=k:= by rw[List.length_take];omega
 rw[h2]at h1;simp only[List.foldl_cons,List.foldl_nil];rw[h1];simp
theorem latS_le(b:UInt8)(l:List WEnt):∀k,k≤l.length→ (Raf.latS b (l.take k)).2≤k:= by
 intro k
 induction k with
 |zero=> intro _;exact Nat.le_refl _
 |succ k ih=>
  intro h;rw[latS_take b o_]
  split
  ·exact Nat.le_refl _
  ·have:=ih o_;omega
def RetLat(w:World)(r:UInt8× Nat)(e:Ending)(w':World):Prop:= e= .returned (.tuple #[B r.1,.int .i64 (r.2:Int),.int .i64 0])∧Below w.heap.size w w'
theorem latest_any(es:List RwE)(a:Option Addr)(n c:Nat)(s:UInt8)(w:World)(hn:es.length= n)(hl:n≤ 4096)(hok:okR 0 0 (ents es)=true)(hr:Row w a (es.flatMap cellsRw)):
 Calls Tryz.prog 52 #[.agg #[.int .i64 0,.int .i64 0,.slice a n c],B s] w (RetLat w (Raf.latS s (ents es))):=by
 have hlen:(ents es).length=n:= by rw[←hn];exact List.length_map _
 have HB0:Hid (Below w.heap.size w (w.alloc (.cells #[.int .i64 0,.int .i64 0,.slice a n c] 33))):=mid_alloc' b_;have HX0:Hid (Box (w.alloc (.cells #[.int .i64 0,.int .i64 0,.slice a n c] 33)) w.heap.size [.int .i64 0,.int .i64 0,.slice a n c]):=Box.of_alloc (w:=w) (cs:=[.int .i64 0,.int .i64 0,.slice a n c]) (t:=33) b_;have HC:=h_ (fun w' (hb:Below w.heap.size w w')=>check_any es 0 0 a n c w' hn o_ (hr.mono_below hb));rw[chk_ok hok]at HC;have HR:=h_ hr;have HN:=h_ hn;have HST:=h_ (fun k (hk:k< (ents es).length)=>latS_take s hk);have HLE:=h_ (fun k (hk:k≤ n)=>latS_le s (ents es) k o_);have HTK:Hid ((ents es).take n=ents es):=by show _=_;rw[←hlen,List.take_length]
 have HLN:=h_ hlen;clear hok hlen hr hn;go_enter Tryz.func52,Tryz.ntmps52;go_wp2_with(go_at_call 18;((with_reducible refine(HC.out _ HB0.out).mono ?_);rintro e w1 ⟨rfl,hb⟩;have HX1:=h_ (HX0.next (by simp) hb);have HB1:=h_ (HB0.trans (hb.mono HB0.size));clear hb;have k0:=HX1.cell (j:=0) rfl;have k2:=HX1.cell (j:=2) rfl));go_quiet (fail);go_wp2_with fail;clear k0 k2;go_loopw [4,5,18] (fun sv iv kv wr=>∃k: Nat,k≤n∧ kv= .int .i64 k∧sv= B (Raf.latS s ((ents es).take k)).1∧iv= .int .i64 ((Raf.latS s ((ents es).take k)).2:Nat)∧Hid (Below w.heap.size w wr)∧Hid (Box wr w.heap.size [.int .i64 0,.int .i64 0,.slice a n c])) (fun _ _ i _=>n- (intOf i).toNat)
 case atStart=>exact ⟨0,Nat.zero_le _,rfl,rfl,rfl,below_drewN HB1.out _,HX1.below (below_drewN b_ _) (HX1.lt (by simp))⟩
 case round=>
  clear HB0 HX0 HC HX1 HB1;obtain⟨k,hk,rfl,rfl,rfl,HB,HX⟩:=hrel;by_cases hlt:k< n
  ·have hke:k< es.length:=by rw[HN.out];exact hlt
   have hkl:k< (ents es).length:=by rw[HLN.out];exact hlt
   obtain⟨bb,oo,ha,hE⟩:=entAt (HR.mono_below HB.out) hke;have hs:=HST.out k hkl;have he:(ents es)[k]=es[k].1:=List.getElem_map _;rw[he]at hs;have HS:=h_ hs;have hle:=HLE.out k hk;clear hs he HST HLE;subst ha;generalize Raf.latS s ((ents es).take k)=r0 at HS hle ⊢;obtain⟨r0,q0⟩:=r0;generalize es[k]=x at hE HS;obtain⟨⟨x0,x1,x2,x3,x4⟩,⟨q1,q2⟩⟩:=x;obtain⟨-,j1,-,j3,-⟩:=hE;simp only at j1 j3 HS hle;have k0:=HX.cell (j:=0) rfl;have k2:=HX.cell (j:=2) rfl;have i1:(0:Int)≤(k:Int):=o_;have i2:(k:Int)<(n:Int):=o_;have hd:decide (k<n)=true:= decide_eq_true hlt;rcases e1:(x1==1)with _|_
   ·have hS:Hid (Raf.latS s ((ents es).take (k+1))=(r0,q0)):=by
     have h1:¬x1= 1:=by simpa using e1
     have:=HS.out;rw[if_neg h1]at this;exact this
    clear HS;go_wp2_with fail;go_roundw
    case rel=>exact ⟨k+1,by omega,by go_num,by rw[hS.out],by rw[hS.out],HB.out,HX.out⟩
    case measure=>simp [intOf];omega
   ·have hS:Hid (Raf.latS s ((ents es).take (k+1))=(x3,k+1)):=by
     have h1:x1= 1:=by simpa using e1
     have:=HS.out;rw[if_pos h1]at this;exact this
    have f1:IntKind.i64.wrap ((0:Int)+(k:Int))=(k:Int):=by rw[Int.zero_add];exact IntWalk.i64_in _ o_
    have f2:IntKind.i64.wrap ((k:Int)+1)=(k:Int)+1:= IntWalk.i64_in _ o_;clear HS;go_upto_region 9 with(fail);go_quiet (fail);go_wp2_with fail;go_roundw
    case rel=>exact ⟨k+1,by omega,by go_num,by rw[hS.out],by rw[hS.out];go_num,below_drewN HB.out _,HX.below (below_drewN b_ _) (HX.lt (by simp))⟩
    case measure=>simp [intOf];omega
  ·obtain rfl:k= n:=o_;have hd:decide (k<k)=false:= decide_eq_false hlt;rw[HTK.out];go_wp2_with fail;refine bodyPost_ret (v:= .tuple #[B (Raf.latS s (ents es)).1,.int .i64 ((Raf.latS s (ents es)).2:Nat),.int .i64 0]) (by simp[results,Tryz.results52,go_sem]) rfl ?_;exact⟨rfl,HB.out⟩
def mayB(s:Nat):Bool:= decide (s≠0)&&decide (s<128)
theorem may_and:∀n: Fin 256,(bits .andNot .u8 (n.val:Int) 127==0)=decide (n.val<128):=by decide+kernel
theorem setmay_any(s:UInt8)(w:World):Calls Tryz.prog 37 #[B s] w (RetB0 w (mayB s.toNat)):=by
 have h1:=may_and ⟨s.toNat,s.toNat_lt⟩;simp only at h1;have HI:Hid (mayB s.toNat=(!decide (s.toNat=0)&&(bits .andNot .u8 (s.toNat:Int) 127==0))):=by
  show _=_
  rw[h1];unfold mayB;simp
 generalize mayB s.toNat=r at HI ⊢;clear h1;rcases e1:((s.toNat:Int) !=0)with _|_
 ·go_enter Tryz.func37,Tryz.ntmps37;go_wp2_with fail;go_ret;have h2:s.toNat= 0:=by simpa using e1
  exact⟨congrArg (fun b=>Ending.returned (.bool b)) (by rw[HI.out,h2];rfl),rfl⟩
 ·go_enter Tryz.func37,Tryz.ntmps37;go_wp2_with fail;go_ret;have h2:¬s.toNat= 0:=by simpa using e1
  exact⟨congrArg (fun b=>Ending.returned (.bool b)) (by rw[HI.out,decide_eq_false h2];simp),rfl⟩
theorem may_set(s:UInt8)(w:World):Calls Tryz.prog 15 #[B s] w (RetB0 w (mayB s.toNat)):=by
 have HS:=h_ (fun w'=>setmay_any s w');generalize mayB s.toNat=r at HS ⊢;go_enter Tryz.func15,Tryz.ntmps15;go_wp2_with(go_at_call 37;((with_reducible refine(HS.out _).mono ?_);rintro e w1 ⟨rfl,rfl⟩));go_ret;exact⟨rfl,rfl⟩
theorem sethas_any(s:UInt8)(k:Nat)(w:World)(h1:1≤ k)(h2:k≤ 7):Calls Tryz.prog 77 #[B s,.int .i64 k] w (RetB0 w (inSet s.toNat k)):=by
 have HI:=h_ (inSet_at s k h1 h2);generalize inSet s.toNat k=r at HI ⊢;obtain rfl|rfl| rfl|rfl| rfl|rfl| rfl:k= 1∨k= 2∨k= 3∨k= 4∨k= 5∨k= 6∨k= 7:=o_
 all_goals
  go_enter Tryz.func77,Tryz.ntmps77;go_wp2_with fail;go_ret;exact⟨congrArg (fun b=>Ending.returned (.bool b)) (by first|exact HI.symm|(rw[HI.out];simp)),rfl⟩
theorem has_set(s:UInt8)(k:Nat)(w:World)(h1:1≤ k)(h2:k≤ 7):Calls Tryz.prog 53 #[B s,.int .i64 k] w (RetB0 w (inSet s.toNat k)):=by
 have HS:=h_ (fun w'=>sethas_any s k w' h1 h2);generalize inSet s.toNat k=r at HS ⊢;go_enter Tryz.func53,Tryz.ntmps53;go_wp2_with(go_at_call 77;((with_reducible refine(HS.out _).mono ?_);rintro e w1 ⟨rfl,rfl⟩));go_ret;exact⟨rfl,rfl⟩
theorem node_any(k:Int)(w:World)(h1:1≤ k)(h2:k≤ 7):Calls Tryz.prog 82 #[.int .i64 k] w (RetB0 w true):=by
 go_enter Tryz.func82,Tryz.ntmps82;go_wp2_with fail;go_ret;exact⟨rfl,rfl⟩
theorem vhas_any(s:UInt8)(k:Nat)(w:World)(h1:1≤ k)(h2:k≤ 7):Calls Tryz.prog 79 #[B s,.int .i64 k] w (RetB0 w (inSet s.toNat k)):=by
 have HI:=h_ (inSet_at s k h1 h2);generalize inSet s.toNat k=r at HI ⊢;obtain rfl|rfl| rfl|rfl| rfl|rfl| rfl:k= 1∨k= 2∨k= 3∨k= 4∨k= 5∨k= 6∨k= 7:=o_
 all_goals
  go_enter Tryz.func79,Tryz.ntmps79;go_wp2_with(go_at_call 82;((with_reducible refine(node_any _ _ d_ d_).mono ?_);rintro e w1 ⟨rfl,rfl⟩));go_ret;exact⟨congrArg (fun b=>Ending.returned (.bool b)) (by first|exact HI.symm|(rw[HI.out];simp)),rfl⟩
def RetY(w:World)(y:RwE)(e:Ending)(w':World):Prop:= ∃(a:Option Addr) (c:Nat),e= .returned (.agg #[.int .i64 y.1.term,.int .i8 y.1.kind,.int .i64 y.1.stamp,B y.1.set,.slice a y.1.data.length c])∧RowB w' a y.1.data∧Below w.heap.size w w'∧NewY w.heap.size (y.1,(a,c))
theorem entry1_any(x:WEnt)(q0:Option Addr)(q1:Nat)(w:World)(hl:x.data.length≤ 1000000)(hc:q0= none→q1= 0)(hnc:x.data.length≤ q1)(hr:RowB w q0 x.data):
 Calls Tryz.prog 41 #[.agg #[.int .i64 x.term,.int .i8 x.kind,.int .i64 x.stamp,B x.set,.slice q0 x.data.length q1]] w (RetY w (x,(q0,q1))):=by
 obtain⟨x0,x1,x2,x3,x4⟩:=x;simp only at hl hnc hr;have HCL:=h_ (fun w' (hb:Below w.heap.size w w')=>cloneB x4 q0 x4.length q1 w' rfl hl hc hnc (hr.below hb));have HB0:Hid (Below w.heap.size w ((w.alloc (.cells #[.int .i64 x0,.int .i8 x1,.int .i64 x2,B x3,.slice q0 x4.length q1] 79)).alloc (.cells #[.int .i64 0,.int .i8 0,.int .i64 0,.int .u8 0,.slice none 0 0] 79))):=mid_alloc' (mid_alloc' b_);have HP0:Hid (Bex ((w.alloc (.cells #[.int .i64 x0,.int .i8 x1,.int .i64 x2,B x3,.slice q0 x4.length q1] 79)).alloc (.cells #[.int .i64 0,.int .i8 0,.int .i64 0,.int .u8 0,.slice none 0 0] 79)) w.heap.size [.int .i64 x0,.int .i8 x1,.int .i64 x2,B x3,.slice q0 x4.length q1]):=Bex.of_alloc (w:=w) (mid_alloc' b_);have HR0:Hid (Bex ((w.alloc (.cells #[.int .i64 x0,.int .i8 x1,.int .i64 x2,B x3,.slice q0 x4.length q1] 79)).alloc (.cells #[.int .i64 0,.int .i8 0,.int .i64 0,.int .u8 0,.slice none 0 0] 79)) (w.heap.size+1) [.int .i64 0,.int .i8 0,.int .i64 0,.int .u8 0,.slice none 0 0]):=by
  have:=Bex.new (w.alloc (.cells #[.int .i64 x0,.int .i8 x1,.int .i64 x2,B x3,.slice q0 x4.length q1] 79)) [.int .i64 0,.int .i8 0,.int .i64 0,.int .u8 0,.slice none 0 0] 79;rw[World.size_alloc]at this;exact this
 clear hr hl hc hnc;go_enter Tryz.func41,Tryz.ntmps41;go_wp2_with(first|(go_at_call 39;((with_reducible refine(HCL.out _ HB0.out).mono ?_);rintro e w1 ⟨a6,c6,rfl,hr6,hb6,hl6,hf6⟩;have HR6:=h_ hr6;have HF6:=h_ (And.intro hl6 hf6);have HB1:=h_ (HB0.trans (hb6.mono HB0.size));have HP1:=h_ (HP0.next hb6);have HR1:=h_ (HR0.next hb6);have HS0:=HB0.size;clear hr6 hl6 hf6 hb6))|((with_reducible refine at_store 45 (.tmp 6) (.tmp 5) ?_);refine wpList_field_bex rfl (.tmp 6) (.tmp 5) rfl k_ w.heap.size 4 _ (.slice a6 x4.length c6) rfl rfl rfl rfl HP1.out (show 4<5 by decide) ?_;intro w2 hx2 hw2;have HP2:=h_ hx2;have HW2:=h_ hw2;have HR2:=h_ (HR1.wrote hw2 o_);have m0:=hx2.box.cell (j:=0) rfl;have m1:=hx2.box.cell (j:=1) rfl;have m2:=hx2.box.cell (j:=2) rfl;have m3:=hx2.box.cell (j:=3) rfl;have m4:=hx2.box.cell (j:=4) rfl;clear hx2 hw2)|((with_reducible refine at_store 79 (.tmp 2) (.tmp 7) ?_);refine wpList_store_bex layRw rfl (.tmp 2) (.tmp 7) rfl (w.heap.size+1) ((⟨x0,x1,x2,x3,x4⟩,(a6,c6)):RwE) _ rfl rfl HR2.out rfl ?_;intro w3 hx3 hw3;have HR3:=h_ hx3;have HW3:=h_ hw3;clear hx3 hw3));have j0:=HR3.box.cell (j:=0) rfl;have j1:=HR3.box.cell (j:=1) rfl;have j2:=HR3.box.cell (j:=2) rfl;have j3:=HR3.box.cell (j:=3) rfl;have j4:=HR3.box.cell (j:=4) rfl;refine bodyPost_ret (v:= .agg #[.int .i64 x0,.int .i8 x1,.int .i64 x2,B x3,.slice a6 x4.length c6]) (by simp[results,Tryz.results41,go_sem,j0,j1,j2,j3,j4]) rfl ?_;have hsz:=HB0.size;have hkeep:∀k,k≠w.heap.size→ k≠w.heap.size+ 1→w3.heap[k]? =w1.heap[k]?:=fun k h1 h2=>(HW3.keep k h2).trans (HW2.keep k h1)
 refine⟨a6,c6,rfl,?_,?_,⟨fun h0 b o s e=> ?_,HF6.1,HF6.2.2⟩⟩
 ·refine rowB_block HR6.out (fun b o s e hlt h0=>hkeep b ?_ ?_)
  all_goals
   have:=HF6.2.1 h0 b o s e;simp at this;omega
 ·exact(HB1.trans (HW2.below _ n_)).trans (HW3.below _ o_)
 ·have:=HF6.2.1 h0 b o s e;simp at this;omega
theorem enter_entries1(args:Array Value)(w:World):(callFunc 41 args).run Tryz.prog w= .ok (.enter 41 args) w:=k_
def RetEn(U:Nat→ Prop)(w:World)(es:List RwE)(e:Ending)(w':World):Prop:= ∃(a:Option Addr) (c:Nat) (fs:List RwE),e= .returned (.slice a fs.length c)∧ents fs=ents es∧EntsAt U w' a c fs∧Below w.heap.size w w'
abbrev UB(B:Nat)(a:Option Addr):Nat→ Prop:=fun k=>k< B∨blkOf a=some k
theorem each_any(U:Nat→ Prop)(es:List RwE)(a:Option Addr)(n c:Nat)(w:World)(hU:Old U w)(hn:es.length= n)(hl:n≤ 1000000)(hle:∀y∈ es,RowB w y.2.1 y.1.data∧y.1.data.length≤ 1000000∧y.1.data.length≤ y.2.2∧(y.2.1=none→ y.2.2=0))(hr:Row w a (es.flatMap cellsRw)):
 Calls Tryz.prog 40 #[.slice a n c,.func (.func 41) #[] #[]] w (RetEn U w es):=by
 have HN:=h_ hn;have HR:=h_ hr;have HLE:=h_ hle;have HLN:Hid ((ents es).length=n):=by show _=_;rw[←hn];exact ents_len _
 have HENT:=h_ enter_entries1;have HUO:=h_ hU;clear hn hr hle hU;go_enter Tryz.func40,Tryz.ntmps40;go_wp2_with fail;go_loopw [4,9] (fun ov iv wr=>∃(k:Nat) (fs:List RwE) (a1:Option Addr) (c1:Nat),k≤n∧ iv= .int .i64 k∧ov= .slice a1 fs.length c1∧fs.length≤ k∧Hid (ents fs=(ents es).take k)∧Hid (OwnO wr 79 5 a1 fs.length c1 (fs.flatMap cellsRw))∧Hid (∀b,blkOf a1=some b→w.heap.size≤ b)∧Hid (∀y∈ fs,YAt (UB w.heap.size a1) wr y)∧Hid (Below w.heap.size w wr)) (fun _ iv _=>n- (intOf iv).toNat)
 case atStart=>exact ⟨0,[],none,0,Nat.zero_le _,rfl,rfl,Nat.le_refl _,rfl,OwnO.nil _ _ _,(fun b h=>by cases h),(fun y hy=>by cases hy),Below.refl _ _⟩
 case round=>
  obtain⟨k,fs,a1,c1,hk,rfl,rfl,hfs,HE,HO,HFA,HY,HB⟩:=hrel;have hsz:=HB.size;by_cases hlt:k< n
  ·have hke:k< es.length:=by rw[HN.out];exact hlt
   have hkl:k< (ents es).length:=by rw[HLN.out];exact hlt
   obtain⟨bb,oo,ha,hE⟩:=entAt (HR.mono_below HB.out) hke;have hX:=HLE.out _ (List.getElem_mem hke);have HTK:Hid ((ents es).take (k+1)=(ents es).take k++[es[k].1]):=by
    show _=_
    rw[List.take_succ_eq_append_getElem hkl]
    congr 2
    exact List.getElem_map _
   subst ha;generalize es[k]=x at hE hX HTK;obtain⟨⟨x0,x1,x2,x3,x4⟩,⟨q0,q1⟩⟩:=x;obtain⟨j0,j1,j2,j3,j4⟩:=hE;simp only at j0 j1 j2 j3 j4 hX HTK;have hx4:=hX.2.1;have HEX:=h_ (fun w' (hb:Below wr.heap.size wr w')=>entry1_any ⟨x0,x1,x2,x3,x4⟩ q0 q1 w' hX.2.1 hX.2.2.2 hX.2.2.1 ((hX.1.below HB.out).below hb));have i1:(0:Int)≤(k:Int):=o_;have i2:(k:Int)<(n:Int):=o_;have hd:decide (k<n)=true:= decide_eq_true hlt;have hbb:bb< wr.heap.size:=World.block_lt_of_cell? wr _ j4;have hent:=HENT.out;clear hke hkl hX;go_wp2_with(first|(have hgq:=HR6;clear hgq;at_builtin;refine wpList_ownO el_ent rfl (.tmp 13) (.tmp 17) rfl a1 fs.length c1 (fs.flatMap cellsRw) rfl ((HO.keep (fun k hk=>HW6.block k (HO.lt k hk))).keep (fun k hk=>heap_alloc_old w6 _ (Nat.lt_of_lt_of_le (HO.lt k hk) HW6.size))) (some ⟨w6.heap.size,0,none⟩) 1 1 [.int .i64 x0,.int .i8 x1,.int .i64 x2,B x3,.slice a6 x4.length c6] rfl rfl (Row.new _ _ _ _) (by simp[Value.oneCell']) o_ ?_;intro a8 c8 w8 ho8 hg8 hn8;have HO8:=h_ ho8;have HG8:=h_ hg8;have HN8:=h_ hn8;clear ho8 hg8 hn8)|((with_reducible refine(HEX.out _ (b_.alloc n_ _)).mono ?_);rintro e w6 ⟨a6,c6,rfl,hr6,hb6,hy6⟩;have HR6:=h_ hr6;have HY6:=h_ hy6;have HW6:Hid (Below wr.heap.size wr w6):=((Below.refl wr.heap.size wr).alloc n_ _).trans (hb6.mono (by simp));clear hr6 hb6 hy6 hent));go_roundw
   case rel=>
    have hs7:w6.heap.size< (w6.alloc (.cells #[.int .i64 x0,.int .i8 x1,.int .i64 x2,B x3,.slice a6 x4.length c6] 79)).heap.size:=by simp
    have h6s:=HW6.size;have hK6:Keep (fun j=>blkOf a1=some j) w6 w8:=(Keep.of ((Below.refl w6.heap.size w6).alloc n_ _)).trans (.grown HG8.out (fun _ h=>h));have hKr:Keep (fun j=>blkOf a1=some j) wr w8:=(Keep.of HW6.out).trans hK6;have hU:∀j,j<w6.heap.size→ UB w.heap.size a8 j→UB w.heap.size a1 j:=fun j hj h=>by
     rcases h with h|h
     ·exact .inl h
     ·rcases HN8.out j h with h1|h1
      ·exact .inr h1
      ·exact absurd h1 o_
    have hY6:YAt (UB w.heap.size a1) w6 ((⟨x0,x1,x2,x3,x4⟩,(a6,c6)):RwE):=by
     refine⟨⟨HR6.out,fun h0 b o s e h1=> ?_⟩,hx4,HY6.2.1,HY6.2.2⟩;have h2:=HY6.1 (fun e=>h0 (by rw[e];rfl)) b o s e;rw[World.size_alloc]at h2;rcases h1 with h1|h1
     ·omega
     ·have:=HO.lt b h1;omega
    refine⟨k+1,fs++[(⟨x0,x1,x2,x3,x4⟩,(a6,c6))],a8,c8,by omega,by go_num,by simp,by simp;omega,(by show ents _=_;rw[HTK.out,←HE.out];exact List.map_append),?_,fun b hb=> ?_,fun y hy=> ?_,?_⟩
    ·show OwnO _ _ _ _ _ _ _
     rw[List.length_append,List.flatMap_append];exact HO8.out
    ·rcases HN8.out b hb with h1|h1
     ·exact HFA.out b h1
     ·omega
    ·rcases List.mem_append.1 hy with hy|hy
     ·exact(HY y hy).step hKr (fun _ h=> .inr h) (fun j hj=>hU j o_)
     ·rw[List.mem_singleton]at hy;subst hy;exact hY6.step hK6 (fun _ h=> .inr h) hU
    ·exact HB.trans (hKr.below hsz (fun j hj=>HFA.out j hj))
   case measure=>simp [intOf];omega
  ·obtain rfl:k= n:=o_;have hd:decide (k<k)=false:= decide_eq_false hlt;have hE:ents fs=ents es:=by have:=HE.out;rw[List.take_of_length_le (Nat.le_of_eq HLN.out)]at this;exact this
   have HE2:=h_ hE;clear hE;go_wp2_with fail;go_ret;refine⟨a1,c1,fs,rfl,HE2.out,⟨⟨HO.row,fun _ b o s e h1=> ?_⟩,HO.2.1,HO.2.2.1,HO.cap0,fun y hy=>⟨(HY y hy).row.mono (fun k hk=> .inl (HUO k hk)),(HY y hy).len,(HY y hy).le,(HY y hy).nil⟩⟩,HB.out⟩;have:=HFA.out b (by rw[e];rfl);have:=HUO.out b h1;omega
theorem entries_any(U:Nat→ Prop)(es:List RwE)(a:Option Addr)(n c:Nat)(w:World)(hU:Old U w)(hn:es.length= n)(hl:n≤ 1000000)(hle:∀y∈ es,RowB w y.2.1 y.1.data∧y.1.data.length≤ 1000000∧y.1.data.length≤ y.2.2∧(y.2.1=none→ y.2.2=0))(hr:Row w a (es.flatMap cellsRw)):
 Calls Tryz.prog 21 #[.slice a n c] w (RetEn U w es):=by
 have HE:=h_ (each_any U es a n c w hU hn hl hle hr);clear hU hn hl hle hr;go_enter Tryz.func21,Tryz.ntmps21;go_wp2_with(go_at_call 40;((with_reducible refine HE.out.mono ?_);rintro e w1 ⟨a1,c1,fs,rfl,he,hE,hb⟩;have HX:=h_ (And.intro he (And.intro hE hb));clear he hE hb));go_ret;exact⟨a1,c1,fs,rfl,HX.out⟩
abbrev snap0:Value:= .agg #[.int .i64 0,.int .i64 0,.int .u8 0,.slice none 0 0]
theorem none_any(w:World):Calls Tryz.prog 16 #[snap0] w (fun e w'=>e= .returned (.bool true)∧Below w.heap.size w w'):=by
 go_enter Tryz.func16,Tryz.ntmps16;go_wp2_with fail;go_ret;exact⟨rfl,mid_alloc' b_⟩
theorem clone_nil(w:World):Calls Tryz.prog 39 #[.slice none 0 0] w (fun e w'=>e= .returned (.slice none 0 0)∧w= w'):=by
 have hnil:=Lib.run_eql_slice_nil (P:=Tryz.prog) w 45 5 none 0 0 0 0 Tryz.underlying45;go_enter Tryz.func39,Tryz.ntmps39;go_wp2;go_returns;exact⟨rfl,rfl⟩
theorem snapshot_any(w:World):Calls Tryz.prog 19 #[snap0] w (fun e w'=>e= .returned snap0∧Below w.heap.size w w'):=by
 have HC:=h_ (fun w'=>clone_nil w');go_enter Tryz.func19,Tryz.ntmps19;go_wp2_with(go_at_call 39;((with_reducible refine(HC.out _).mono ?_);rintro e w1 ⟨rfl,rfl⟩));refine bodyPost_ret (v:=snap0) (by simp[results,Tryz.results19,go_sem]) rfl ⟨rfl,?_⟩;exact belo
end Go.Proofs.YtoeofkcpclfnhaaGreat
