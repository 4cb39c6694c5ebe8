import Derived.Test.YtoeofkcpclfnhaaGreatSrNdChange
set_option linter.unusedVariables false
set_option linter.unusedSimpArgs false
namespace Go.Proofs.YtoeofkcpclfnhaaGreat
open Go.ChangeShapes Go.WideShapes Go.ChangeAt Go.RowKit
set_option maxRecDepth 100000
set_option maxHeartbeats 16000000
theorem FRow.more{U:Nat→ Prop}{w:World}{a:Option Addr}{xs:List Value}(h:FRow U w a xs){q:Nat}(hq:w.heap.size≤ q):FRow (fun k=>U k∨k= q) w a xs:=⟨h.1,fun h0 b o s e h1=>h1.elim (h.2 h0 b o s e) (fun h2=>by have:=h.lt h0 b o s e;omega)⟩
theorem EntsAt.more{U:Nat→ Prop}{w:World}{a:Option Addr}{c:Nat}{es:List RwE}(h:EntsAt U w a c es){q:Nat}(hq:w.heap.size≤ q):EntsAt (fun k=>U k∨k= q) w a c es:=⟨h.row.more hq,h.le,h.cm,h.nil,fun y hy=>⟨(h.each y hy).row.more hq,(h.each y hy).len,(h.each y hy).le,(h.each y hy).nil⟩⟩
theorem EntsAt.same{U:Nat→ Prop}{w w':World}{a:Option Addr}{c:Nat}{es:List RwE}(h:EntsAt U w a c es){q:Nat}(hw:Wrote q w w')(hq:U q):EntsAt U w' a c es:=h.step (Keep.wrote (T:=fun k=>k= q) hw rfl) (fun k h5=>by rw[h5];exact hq) (fun _ _ h5=>h5)
theorem MsAt.below{U:Nat→ Prop}{w w':World}{x:Ms}(h:MsAt U w x)(hb:Below w.heap.size w w'):MsAt U w' x:=⟨h.ent.below hb,h.eq⟩
def appendAskF(n:Raf.RN)(m:WMsg)(now:Int):Raf.RN× List WMsg:=
 if m.term<n.hT then(n,[Raf.tellF n m.src false n.es.length])else
 let n:=Raf.again {n with role:=0,known:=m.src} now
 let r:=Raf.putR n.es m.index m.last m.entries
 if r.2.2.2≠0 then(n,[Raf.tellF n m.src false n.es.length])
 else if r.2.2.1=false then(n,[Raf.tellF n m.src false r.2.1])
 else({n with es:=r.1,com:=max n.com (min m.commit r.2.1)},[Raf.tellF n m.src true r.2.1])
theorem again_keeps(n:Raf.RN)(now:Int):(Raf.again n now).es=n.es∧ (Raf.again n now).draws=n.draws∧ (Raf.again n now).p=n.p∧ (Raf.again n now).hT=n.hT∧ (Raf.again n now).self=n.self∧ (Raf.again n now).com=n.com:= by
 unfold Raf.again
 split<;>exact ⟨rfl,rfl,rfl,rfl,rfl,rfl⟩
theorem merge_len(es:List WEnt):∀(k:Nat) (l:List WEnt),(Raf.mergeF es k l).length≤es.length+ l.length
 |k,[]=>by unfold Raf.mergeF;exact Nat.le_add_right _ _
 |k,x::l=> by
  unfold Raf.mergeF
  split
  ·split
   ·have:=merge_len es (k+1) l;simp only[List.length_cons];omega
   ·simp only[List.length_append,List.length_cons,List.length_take];omega
  ·simp only[List.length_append,List.length_cons,List.length_take];omega
theorem putR_len{es:List WEnt}{i t:Int}{l:List WEnt}(h:es.length≤ 4000)(h2:(Raf.putR es i t l).2.2.1=true):(Raf.putR es i t l).1.length≤4096:= by
 unfold Raf.putR at h2 ⊢;by_cases h3:16< l.length∨okR i t l=false
 ·rw[if_pos h3];exact Nat.zero_le _
 ·rw[if_neg h3];by_cases h4:(es.length:Int)<i
  ·rw[if_pos h4];show es.length≤_;omega
  ·rw[if_neg h4];by_cases h5:termR 0 0 es i≠t
   ·rw[if_pos h5];show es.length≤_;omega
   ·rw[if_neg h5];by_cases h6:okR 0 0 (Raf.mergeF es i.toNat l)=true
    ·rw[if_pos h6];have h7:=merge_len es i.toNat l;show(Raf.mergeF es i.toNat l).length≤_
     omega
    ·rw[if_neg h6];exact Nat.zero_le _
theorem appendAsk_no{S T:Nat→ Prop}{w:World}{g:Nat}{x:Nd}{e:Ef}{D:Nat}(h:NdAt S T w g x e)(he:EfAt S T w g e)(hg:Gd x.n D)(m:Ms)(hm:MsAt (Un S T) w m)(now:Int)(hn0:0≤ now)(hn1:now≤ 1099511627776)(hl:e.sl.length≤ 900000)(hml:m.es.length≤ 1000000)(ht:m.m.term< x.n.hT):
 Calls Tryz.prog 33 #[.pointer (some ⟨g,0,none⟩),.agg (cellsMs m).toArray,.int .i64 now] w (RetSt S T w g e (appendAskF x.n m.m now).1 (appendAskF x.n m.m now).2):=by
 have HQ:Hid (appendAskF x.n m.m now=(x.n,[Raf.tellF x.n m.m.src false x.n.es.length])):=if_pos ht;generalize appendAskF x.n m.m now=r at HQ ⊢;have HN:=h_ h;have HE:=h_ he;have HMB:=h_ (Bex.new w (cellsMs m) 59);have HBB:Hid (Below w.heap.size w (w.alloc (.cells (cellsMs m).toArray 59))):=mid_alloc' b_;have HHR:=h_ (fun w' (hb:Below w.heap.size w w')=>hears_no (h.next hb) (he.next hb) hg m now o_ ht);clear h he hg hm hn0 hn1 hl hml ht;go_enter Tryz.func33,Tryz.ntmps33;have y0:=HMB.box.cell (j:=0) rfl;have y1:=HMB.box.cell (j:=1) rfl;have y2:=HMB.box.cell (j:=2) rfl;have y3:=HMB.box.cell (j:=3) rfl;have y4:=HMB.box.cell (j:=4) rfl;have y5:=HMB.box.cell (j:=5) rfl;have y6:=HMB.box.cell (j:=6) rfl;have y7:=HMB.box.cell (j:=7) rfl;have y8:=HMB.box.cell (j:=8) rfl;have y9:=HMB.box.cell (j:=9) rfl;have y10:=HMB.box.cell (j:=10) rfl;have y11:=HMB.box.cell (j:=11) rfl;have y12:=HMB.box.cell (j:=12) rfl;have y13:=HMB.box.cell (j:=13) rfl;go_wp2_with(go_at_call 61;((with_reducible refine(HHR.out _ HBB.out).mono ?_);rintro en w1 ⟨rfl,hri⟩;have HRI:=h_ hri;clear hri));go_end0;obtain⟨-,T',sl,sa,sc,hst,hnd,hef,hml⟩:=HRI.out;exact⟨rfl,T',x,{e with sl:=sl,sa:=sa,sc:=sc},(Stp.below HBB.out).trans hst,by rw[HQ.out],hnd,hef,by rw[HQ.out];exact hml⟩
theorem tq51 {P:Prop}(h:P:=by
 have hV:max com (min mc same)=com:= o_;rw[hV]at HN2 HQ2;clear hV;refine wrq (fun l w'=>(w'.cell? ⟨w.heap.size,6,none⟩=some (.int .i64 mc))∧Till 12 l (w'.cell? ⟨g,22,none⟩=some (.int .i64 com))) ?_;obtain⟨v7,hwd⟩:∃y,y=World.drew v6:=⟨_,rfl⟩;rw[←hwd];have hb:Below v6.heap.size v6 v7:=by rw[hwd];exact b_.drew
 clear hwd;have HB7:=h_ hb;clear hb;refine toS ⟨(by rw[←HMC.out];exact(HM6.next HB7.out).box.cell (j:=6) rfl),fun _=>HC22.out _ HB7.out⟩ ?_;refine ttq [] 0 ?_;refine ttq [] 1 ?_;refine ttq [] 2 ?_;refine ttq [] 3 ?_;refine ttq [12] 4 ?_;refine ttq [] 5 ?_;refine ttq [12] 6 ?_;refine ttq [] 7 ?_;refine ttq [] 8 ?_;refine ttq [] 9 ?_;refine ttq [] 10 ?_;refine ttq [] 11 ?_;refine soq 12 (fun K hK=> ?_);rw[if_pos (by rfl)];refine op_field_bex (.tmp 50) (.tmp 48) rfl size1_nd.1 g 22 _ (.int .i64 com) rfl rfl rfl rfl (HN6b.next HB7.out).bex (show 22<30 by decide) ?_;intro v8 hx hw;have HN8:Hid (NdAt S T6 v8 g ({n:={n2 with com:=com},da:=x.da,dc:=x.dc,es:=fs,ra:=a,rc:=c,pa:=x.pa,pc:=x.pc}:Nd) {e5 with sl:=sl6,sa:=sa6,sc:=sc6}):=(HN6b.next HB7.out).num (n':={n2 with com:=com}) (e':={e5 with sl:=sl6,sa:=sa6,sc:=sc6}) hw hx rfl rfl rfl;have HE8:=h_ ((HE6.next HB7.out).wrote hw (HN6b.tg));have HS8:=h_ ((HSA.next HB7.out).write hw HN1.tg);have HC8:Hid (v8.cell? ⟨w.heap.size,6,none⟩=some (.int .i64 mc)):=by show _=_;rw[←HMC.out];exact((HM6.next HB7.out).wrote hw (by have:=HTW.out g HN1.tg;omega)).box.cell (j:=6) rfl
 clear hx hw;refine hK.out _ _ ⟨HC8.out,fun h=>absurd h d_⟩ ?_;clear hK K;refine sdq ?_;go_wp2_with fail;go_end0
 exact⟨rfl,T6,_,{e5 with sl:=sl6,sa:=sa6,sc:=sc6},HS8.out,by rw[HQ2.out];exact HN2.out,HN8.out,HE8.out,by rw[HQ2.out];exact HMLA.out⟩):P:=h
theorem tq52 {P:Prop}(h:P:=by
 refine soq 17 (fun K hK=> ?_);rw[if_pos (by rfl)];refine op_store_bex layRs (.tmp 6) (.tmp 27) rfl g6 ⟨0,0,a,kk,c⟩ _ rfl rfl HX6.out rfl ?_;intro v4 hx hw;replace HX6:=h_ hx;replace HF:Hid (okb=true→ ∃fs: List RwE,kk=fs.length∧ ents fs=rr1∧ EntsAt (fun k=>Un S T k∨k= g6) v4 a c fs):=fun h5=>by obtain⟨fs,h6,h7,h8⟩:=HF.out h5;exact⟨fs,h6,h7,h8.same hw (.inr rfl)⟩
 replace HBc:=h_ (HBc.trans (hw.below _ HGW6.out));clear hx hw;refine hK.out _ _ ⟨(HN1.next HBc.out).bex.box.cell (j:=14) rfl,(HN1.next HBc.out).bex.box.cell (j:=15) rfl,(HN1.next HBc.out).bex.box.cell (j:=16) rfl,(HM1.next HBc.out).box.cell (j:=4) rfl,(HM1.next HBc.out).box.cell (j:=5) rfl,(HM1.next HBc.out).box.cell (j:=8) rfl⟩ ?_;clear hK K;refine tkq 18 ?_;refine tkq 19 ?_;refine tkq 20 ?_;refine sdq ?_;revert HF;revert HX6;revert HBc;revert HGW6;revert c;revert kk;revert a;revert g6;revert v4
 exact CUT.out):P:=h
theorem tq53 {P:Prop}(h:P:=by
 have HE8:=h_ ((HE6.next HB7.out).wrote hw (HN6b.tg));have HS8:=h_ ((HSA.next HB7.out).write hw HN1.tg);have HC8:Hid (v8.cell? ⟨w.heap.size,6,none⟩=some (.int .i64 mc)):=by show _=_;rw[←HMC.out];exact((HM6.next HB7.out).wrote hw (by have:=HTW.out g HN1.tg;omega)).box.cell (j:=6) rfl
 clear hx hw;refine hK.out _ _ ⟨HC8.out,fun h=>absurd h d_⟩ ?_;clear hK K;refine sdq ?_;go_wp2_with fail;go_end0
 exact⟨rfl,T6,_,{e5 with sl:=sl6,sa:=sa6,sc:=sc6},HS8.out,by rw[HQ2.out];exact HN2.out,HN8.out,HE8.out,by rw[HQ2.out];exact HMLA.out⟩):P:=h
theorem appendAsk_yes{S T:Nat→ Prop}{w:World}{g:Nat}{x:Nd}{e:Ef}{D:Nat}(h:NdAt S T w g x e)(he:EfAt S T w g e)(hg:Gd x.n D)(m:Ms)(hm:MsAt (Un S T) w m)(now:Int)(hn0:0≤ now)(hn1:now≤ 1099511627776)(hl:e.sl.length≤ 900000)(hml:m.es.length≤ 1000000)(ht:x.n.hT≤ m.m.term):
 Calls Tryz.prog 33 #[.pointer (some ⟨g,0,none⟩),.agg (cellsMs m).toArray,.int .i64 now] w (RetSt S T w g e (appendAskF x.n m.m now).1 (appendAskF x.n m.m now).2):=by
 obtain⟨n1,hn1e⟩:∃n1,Raf.again {x.n with role:=0,known:=m.m.src} now=n1:= ⟨_,rfl⟩;have hak:=again_keeps {x.n with role:=0,known:=m.m.src} now;rw[hn1e]at hak;obtain⟨ak1,ak2,ak3,ak4,ak5,ak6⟩:=hak;simp only at ak1 ak2 ak3 ak4 ak5 ak6;obtain⟨r,hr⟩:∃r,Raf.putR n1.es m.m.index m.m.last m.m.entries=r:= ⟨_,rfl⟩;have hrl:r.2.2.1= true→r.1.length≤ 4096:=by rw[←hr,ak1];exact putR_len hg.len
 have HQ:Hid (appendAskF x.n m.m now=(if r.2.2.2≠0 then(n1,[Raf.tellF n1 m.m.src false n1.es.length])
  else if r.2.2.1=false then(n1,[Raf.tellF n1 m.m.src false r.2.1])
  else({n1 with es:=r.1,com:=max n1.com (min m.m.commit r.2.1)},[Raf.tellF n1 m.m.src true r.2.1]))):=by
  show appendAskF x.n m.m now=_
  unfold appendAskF;rw[if_neg o_];simp only[hn1e,hr]
 generalize appendAskF x.n m.m now=rr at HQ ⊢;have HN:=h_ h;have HE:=h_ he;have HMB:=h_ (Bex.new w (cellsMs m) 59);have HBB:Hid (Below w.heap.size w (w.alloc (.cells (cellsMs m).toArray 59))):=mid_alloc' b_;have HHR:=h_ (fun w' (hb:Below w.heap.size w w')=>hears_yes (h.next hb) (he.next hb) hg m now hn0 hn1 o_ ht);rw[hn1e]at HHR;have HPT:=h_ (fun w' (U:Nat→ Prop) (hU:∀k,U k→Un S T k∨k< w'.heap.size) (h5:NdAt S T w' g ({x with n:=n1}:Nd) e) (h6:MsAt (Un S T) w' m)=>rput_any U x.es m.es x.ra x.es.length x.rc m.m.index m.m.last m.ea m.es.length m.ec w' (fun k hk=>(hU k hk).elim (fun h7=>h7.elim (h5.os k) (h5.ot k)) id) rfl rfl (by have:=ents_len x.es;rw[h.eq]at this;have:=hg.len;omega) hml h5.ent.nil h5.ent.le h5.ent.cm h6.ent.le h6.ent.cm (fun y hy=>(h5.ent.each y hy).goodY) (fun y hy=>(h6.ent.each y hy).goodY) h5.ent.row.row h6.ent.row.row (by rw[h.eq];exact hg.ok));rw[h.eq,hm.eq,←ak1,hr]at HPT;have HM0:=h_ hm;have HOK:Hid (okR 0 0 n1.es=true):=by show _=_;rw[ak1];exact hg.ok
 have HLE:Hid (x.es.length≤4096):=by show _≤_;have:=ents_len x.es;rw[h.eq]at this;have:=hg.len;omega
 have HRL:=h_ hrl;have HL:=h_ hl;obtain⟨rr1,same,okb,er⟩:=r;simp only at HPT HQ HRL;clear h he hg hm hn0 hn1 hl hml ht hn1e ak1 ak2 ak3 ak4 ak5 ak6 hr hrl;go_enter Tryz.func33,Tryz.ntmps33;have y0:=HMB.box.cell (j:=0) rfl;have y1:=HMB.box.cell (j:=1) rfl;have y2:=HMB.box.cell (j:=2) rfl;have y3:=HMB.box.cell (j:=3) rfl;have y4:=HMB.box.cell (j:=4) rfl;have y5:=HMB.box.cell (j:=5) rfl;have y6:=HMB.box.cell (j:=6) rfl;have y7:=HMB.box.cell (j:=7) rfl;have y8:=HMB.box.cell (j:=8) rfl;have y9:=HMB.box.cell (j:=9) rfl;have y10:=HMB.box.cell (j:=10) rfl;have y11:=HMB.box.cell (j:=11) rfl;have y12:=HMB.box.cell (j:=12) rfl;have y13:=HMB.box.cell (j:=13) rfl;go_upto_region 2 with(go_at_call 61;((with_reducible refine(HHR.out _ HBB.out).mono ?_);rintro en w1 ⟨rfl,hst1,hnd1,hef1⟩;have HS1:=h_ hst1;have HN1:=h_ hnd1;have HE1:=h_ hef1;clear hst1 hnd1 hef1));clear y0 y1 y2 y3 y4 y5 y6 y7 y8 y9 y10 y11 y12 y13 HHR;have HM1:=h_ (HMB.block (HS1.keep.block _ HMB.lt (fun h5=>by have:=HN.ot _ h5;omega)));have HST1:=h_ ((Stp.below HBB.out).trans HS1.out);have HA1:Hid (MsAt (Un S T) w1 m):=HM0.step HST1.keep (fun _ h5=> .inr h5) (fun _ _ h5=>h5);have HTW:Hid (∀k,T k→k< w.heap.size):=HN.ot;clear HS1 HM0 HBB HMB HN HE;apply cut_here
 ·intro CUT;refine wrq (fun l w'=>(w'.cell? ⟨g,14,none⟩=some (.int .i64 0)∧w'.cell? ⟨g,15,none⟩=some (.int .i64 0)∧w'.cell? ⟨g,16,none⟩=some (.slice x.ra x.es.length x.rc)∧w'.cell? ⟨w.heap.size,4,none⟩=some (.int .i64 m.m.index)∧w'.cell? ⟨w.heap.size,5,none⟩=some (.int .i64 m.m.last)∧w'.cell? ⟨w.heap.size,8,none⟩=some (.slice m.ea m.es.length m.ec))) ?_;obtain⟨v1,hwd⟩:∃y,y=World.drew w1:=⟨_,rfl⟩;rw[←hwd];have hb:Below w1.heap.size w1 v1:=by rw[hwd];exact b_.drew
  clear hwd;have HBc:=h_ hb;clear hb;refine toS ⟨(HN1.next HBc.out).bex.box.cell (j:=14) rfl,(HN1.next HBc.out).bex.box.cell (j:=15) rfl,(HN1.next HBc.out).bex.box.cell (j:=16) rfl,(HM1.next HBc.out).box.cell (j:=4) rfl,(HM1.next HBc.out).box.cell (j:=5) rfl,(HM1.next HBc.out).box.cell (j:=8) rfl⟩ ?_;refine tkq 0 ?_;refine tkq 1 ?_;refine tkq 2 ?_;refine tkq 3 ?_;refine tkq 4 ?_;refine tkq 5 ?_;refine tkq 6 ?_;refine tkq 7 ?_;refine tkq 8 ?_;refine tkq 9 ?_;refine s2q 10 16 (fun K hK=> ?_) (fun K hK=> ?_)
  ·go_simp;go_at_call 62
   with_reducible refine(HPT.out _ (Un S T) (fun _ h5=> .inl h5) (HN1.out.next HBc.out) (HA1.out.below HBc.out)).mono ?_
   rintro en v2 ⟨a,kk,c,rfl,hfe,hb5⟩;have HF0:=h_ hfe;replace HBc:=h_ (HBc.trans (hb5.mono HBc.size));clear hb5 hfe;refine hK.out _ _ ⟨(HN1.next HBc.out).bex.box.cell (j:=14) rfl,(HN1.next HBc.out).bex.box.cell (j:=15) rfl,(HN1.next HBc.out).bex.box.cell (j:=16) rfl,(HM1.next HBc.out).box.cell (j:=4) rfl,(HM1.next HBc.out).box.cell (j:=5) rfl,(HM1.next HBc.out).box.cell (j:=8) rfl⟩ ?_;clear hK K;refine tkq 11 ?_;refine tkq 12 ?_;refine tkq 13 ?_;refine tkq 14 ?_;refine tkq 15 ?_;refine soq 16 (fun K hK=> ?_);go_simp;refine new_block ?_;intro v3 hxb hbb hsb;have HX6:=h_ hxb;obtain⟨g6,hg6⟩:∃q,q=v2.heap.size:= ⟨_,rfl⟩;rw[←hg6]at HX6 ⊢;have HGW6:Hid (w1.heap.size≤g6):=by show _≤_;have:=HBc.size;omega
   have HF:Hid (okb=true→ ∃fs: List RwE,kk=fs.length∧ ents fs=rr1∧ EntsAt (fun k=>Un S T k∨k= g6) v3 a c fs):=fun h5=>by obtain⟨fs,h6,h7,h8⟩:=HF0.out h5;exact⟨fs,h6,h7,(h8.more (Nat.le_of_eq hg6.symm)).below hbb⟩
   clear HF0;replace HBc:=h_ (HBc.trans (hbb.mono HBc.size));clear hxb hbb hsb hg6;refine hK.out _ _ ⟨(HN1.next HBc.out).bex.box.cell (j:=14) rfl,(HN1.next HBc.out).bex.box.cell (j:=15) rfl,(HN1.next HBc.out).bex.box.cell (j:=16) rfl,(HM1.next HBc.out).box.cell (j:=4) rfl,(HM1.next HBc.out).box.cell (j:=5) rfl,(HM1.next HBc.out).box.cell (j:=8) rfl⟩ ?_;clear hK K;exact tq52
  ·go_simp;refine new_block ?_;intro v2 hxb hbb hsb;have HX6:=h_ hxb;obtain⟨g6,hg6⟩:∃q,q=v1.heap.size:= ⟨_,rfl⟩;rw[←hg6]at HX6 ⊢;have HGW6:Hid (w1.heap.size≤g6):=by show _≤_;have:=HBc.size;omega
   replace HBc:=h_ (HBc.trans (hbb.mono HBc.size));clear hxb hbb hsb hg6;refine hK.out _ _ ⟨(HN1.next HBc.out).bex.box.cell (j:=14) rfl,(HN1.next HBc.out).bex.box.cell (j:=15) rfl,(HN1.next HBc.out).bex.box.cell (j:=16) rfl,(HM1.next HBc.out).box.cell (j:=4) rfl,(HM1.next HBc.out).box.cell (j:=5) rfl,(HM1.next HBc.out).box.cell (j:=8) rfl⟩ ?_;clear hK K;refine soq 10 (fun K hK=> ?_);go_simp;go_at_call 62
   with_reducible refine(HPT.out _ (fun k=>Un S T k∨k= g6) (fun k h5=>by rcases h5 with h5|h5;exact .inl h5;subst h5;exact .inr HX6.out.lt) (HN1.out.next HBc.out) (HA1.out.below HBc.out)).mono ?_
   rintro en v3 ⟨a,kk,c,rfl,hfe,hb5⟩;have HF:Hid (okb=true→ ∃fs: List RwE,kk=fs.length∧ ents fs=rr1∧ EntsAt (fun k=>Un S T k∨k= g6) v3 a c fs):=hfe;replace HX6:=h_ (HX6.next hb5);replace HBc:=h_ (HBc.trans (hb5.mono HBc.size));clear hb5 hfe;refine hK.out _ _ ⟨(HN1.next HBc.out).bex.box.cell (j:=14) rfl,(HN1.next HBc.out).bex.box.cell (j:=15) rfl,(HN1.next HBc.out).bex.box.cell (j:=16) rfl,(HM1.next HBc.out).box.cell (j:=4) rfl,(HM1.next HBc.out).box.cell (j:=5) rfl,(HM1.next HBc.out).box.cell (j:=8) rfl⟩ ?_;clear hK K;refine tkq 11 ?_;refine tkq 12 ?_;refine tkq 13 ?_;refine tkq 14 ?_;refine tkq 15 ?_;exact tq52
 intro v4 g6 a kk c HGW6 HBc HX6 HF;rcases d9:(er !=0)with _|_
 ·cases okb with
  |false=>
   have HQ2:Hid (rr=(n1,[Raf.tellF n1 m.m.src false same])):=by
    show rr=_
    rw[HQ.out,if_neg (by simpa using d9),if_pos rfl]
   have HTL:=h_ (tell_nd (HN1.next HBc.out) (HE1.next HBc.out) m.m.src false same (by have:=HL.out;omega));have j1:=(HM1.next HBc.out).box.cell (j:=1) rfl;go_wp2_with(go_at_call 63;((with_reducible refine HTL.out.mono ?_);rintro en v7 ⟨rfl,T4,sl4,sa4,sc4,hst4,hnd4,hef4,hml4⟩;have HF4:=h_ (And.intro hst4 (And.intro hnd4 (And.intro hef4 hml4)));clear hst4 hnd4 hef4 hml4));go_end0;exact⟨rfl,T4,({x with n:=n1}:Nd),{e with sl:=sl4,sa:=sa4,sc:=sc4},HST1.trans ((Stp.below HBc.out).trans HF4.1),by rw[HQ2.out],HF4.2.1,HF4.2.2.1,by rw[HQ2.out];exact HF4.2.2.2⟩
  |true=>
   have HQ2:Hid (rr=({n1 with es:=rr1,com:=max n1.com (min m.m.commit same)},[Raf.tellF n1 m.m.src true same])):=by
    show rr=_
    rw[HQ.out,if_neg (by simpa using d9),if_neg d_]
   obtain⟨fs,rfl,hfs,hfe⟩:=HF.out rfl;have HCH:=h_ (change_nd (HN1.next HBc.out) (HE1.next HBc.out) fs a c (hfe.mono (fun _ h5=> .inl h5)) HLE.out (by have h5:=HRL.out rfl;rw[←hfs,ents_len]at h5;exact h5));have HFS:=h_ hfs;clear hfs hfe HF;have HM4:=h_ (HM1.next HBc.out);have j0:=HX6.box.cell (j:=0) rfl;have j1:=HX6.box.cell (j:=1) rfl;have j2:=HX6.box.cell (j:=2) rfl;go_upto_region 4 with(go_at_call 64;((with_reducible refine HCH.out.mono ?_);rintro en v5 ⟨rfl,e5,hst5,hnd5,hef5,hsl5⟩;have HS5:=h_ hst5;have HN5:=h_ hnd5;have HE5:=h_ hef5;have HSL5:=h_ hsl5;have HM5:=h_ (HM4.block (hst5.keep.block _ HM4.lt (fun h5=>by have h6:=HTW.out _ h5;omega)));clear hst5 hnd5 hef5 hsl5));clear j0 j1 j2;have j1:=HM5.box.cell (j:=1) rfl;have HTL:=h_ (tell_nd HN5.out HE5.out m.m.src true same (by have h5:=HL.out;have h6:=HSL5.out;rw[h6];omega));go_upto_region 5 with(go_at_call 63;((with_reducible refine HTL.out.mono ?_);rintro en v6 ⟨rfl,T6,sl6,sa6,sc6,hst6,hnd6,hef6,hml6⟩;have HS6:=h_ hst6;have HN6:=h_ hnd6;have HE6:=h_ hef6;have HML6:=h_ hml6;have HM6:=h_ (HM5.block (hst6.keep.block _ HM5.lt (fun h5=>by have h6:=HTW.out _ h5;omega)));clear hst6 hnd6 hef6 hml6));clear j1;have HSA:=h_ (HST1.trans ((Stp.below HBc.out).trans (HS5.trans HS6.out)));have HMLA:Hid (sl6.map Ms.m=e.sl.map Ms.m++[Raf.tellF n1 m.m.src true same]):=by
    show _=_
    rw[HML6.out,HSL5.out];rfl
   obtain⟨n2,hn2⟩:∃n2: Raf.RN,n2={n1 with es:=ents fs}:=⟨_,rfl⟩;have HN6b:Hid (NdAt S T6 v6 g ({x with n:=n2,es:=fs,ra:=a,rc:=c}:Nd) {e5 with sl:=sl6,sa:=sa6,sc:=sc6}):=by show NdAt _ _ _ _ _ _;rw[hn2];exact HN6.out
   have hcm2:n2.com= n1.com:=by rw[hn2]
   have HN2:Hid (({n2 with com:=max n1.com (min m.m.commit same)}:Raf.RN)={n1 with es:=rr1,com:=max n1.com (min m.m.commit same)}):=by show _=_;rw[hn2,←HFS.out]
   have HC22:Hid (∀w': World,Below v6.heap.size v6 w'→w'.cell? ⟨g,22,none⟩=some (.int .i64 n1.com)):=fun w' hb=>by rw[←hcm2];exact(HN6b.next hb).bex.box.cell (j:=22) rfl
   clear hn2 hcm2 HN6;obtain⟨com,hcom⟩:∃com,n1.com=com:= ⟨_,rfl⟩;obtain⟨mc,hmc⟩:∃mc,m.m.commit=mc:= ⟨_,rfl⟩;have HMC:=h_ hmc;rw[hcom]at HC22 HN2 HQ2;rw[hmc]at HN2 HQ2;clear hcom hmc;by_cases c1:same< mc
   ·by_cases c2:com< same
    ·skip;have f1:decide (same<mc)=true:= decide_eq_true o_;have f2:decide (com<same)=true:= decide_eq_true o_;have hV:max com (min mc same)=same:= o_;rw[hV]at HN2 HQ2;clear hV;refine wrq (fun l w'=>(w'.cell? ⟨w.heap.size,6,none⟩=some (.int .i64 mc))∧Till 12 l (w'.cell? ⟨g,22,none⟩=some (.int .i64 com))) ?_;obtain⟨v7,hwd⟩:∃y,y=World.drew v6:=⟨_,rfl⟩;rw[←hwd];have hb:Below v6.heap.size v6 v7:=by rw[hwd];exact b_.drew
     clear hwd;have HB7:=h_ hb;clear hb;refine toS ⟨(by rw[←HMC.out];exact(HM6.next HB7.out).box.cell (j:=6) rfl),fun _=>HC22.out _ HB7.out⟩ ?_;refine ttq [] 0 ?_;refine ttq [] 1 ?_;refine ttq [] 2 ?_;refine ttq [] 3 ?_;refine ttq [12] 4 ?_;refine ttq [] 5 ?_;refine ttq [12] 6 ?_;refine ttq [] 7 ?_;refine ttq [] 8 ?_;refine ttq [] 9 ?_;refine ttq [] 10 ?_;refine ttq [] 11 ?_;refine soq 12 (fun K hK=> ?_);rw[if_pos (by rfl)];refine op_field_bex (.tmp 50) (.tmp 48) rfl size1_nd.1 g 22 _ (.int .i64 same) rfl rfl rfl rfl (HN6b.next HB7.out).bex (show 22<30 by decide) ?_;intro v8 hx hw;have HN8:Hid (NdAt S T6 v8 g ({n:={n2 with com:=same},da:=x.da,dc:=x.dc,es:=fs,ra:=a,rc:=c,pa:=x.pa,pc:=x.pc}:Nd) {e5 with sl:=sl6,sa:=sa6,sc:=sc6}):=(HN6b.next HB7.out).num (n':={n2 with com:=same}) (e':={e5 with sl:=sl6,sa:=sa6,sc:=sc6}) hw hx rfl rfl rfl;exact tq53
    ·skip;have f1:decide (same<mc)=true:= decide_eq_true o_;have f2:decide (com<same)=false:= decide_eq_false o_;exact tq51
   ·by_cases c2:com< mc
    ·skip;have f1:decide (same<mc)=false:= decide_eq_false o_;have f2:decide (com<mc)=true:= decide_eq_true o_;have hV:max com (min mc same)=mc:= o_;rw[hV]at HN2 HQ2;clear hV;refine wrq (fun l w'=>(w'.cell? ⟨w.heap.size,6,none⟩=some (.int .i64 mc))∧Till 12 l (w'.cell? ⟨g,22,none⟩=some (.int .i64 com))) ?_;obtain⟨v7,hwd⟩:∃y,y=World.drew v6:=⟨_,rfl⟩;rw[←hwd];have hb:Below v6.heap.size v6 v7:=by rw[hwd];exact b_.drew
     clear hwd;have HB7:=h_ hb;clear hb;refine toS ⟨(by rw[←HMC.out];exact(HM6.next HB7.out).box.cell (j:=6) rfl),fun _=>HC22.out _ HB7.out⟩ ?_;refine ttq [] 0 ?_;refine ttq [] 1 ?_;refine ttq [] 2 ?_;refine ttq [] 3 ?_;refine ttq [12] 4 ?_;refine ttq [] 5 ?_;refine ttq [12] 6 ?_;refine ttq [] 7 ?_;refine ttq [] 8 ?_;refine ttq [] 9 ?_;refine ttq [] 10 ?_;refine ttq [] 11 ?_;refine soq 12 (fun K hK=> ?_);rw[if_pos (by rfl)];refine op_field_bex (.tmp 50) (.tmp 48) rfl size1_nd.1 g 22 _ (.int .i64 mc) rfl rfl rfl rfl (HN6b.next HB7.out).bex (show 22<30 by decide) ?_;intro v8 hx hw;have HN8:Hid (NdAt S T6 v8 g ({n:={n2 with com:=mc},da:=x.da,dc:=x.dc,es:=fs,ra:=a,rc:=c,pa:=x.pa,pc:=x.pc}:Nd) {e5 with sl:=sl6,sa:=sa6,sc:=sc6}):=(HN6b.next HB7.out).num (n':={n2 with com:=mc}) (e':={e5 with sl:=sl6,sa:=sa6,sc:=sc6}) hw hx rfl rfl rfl;exact tq53
    ·skip;have f1:decide (same<mc)=false:= decide_eq_false o_;have f2:decide (com<mc)=false:= decide_eq_false o_;exact tq51
 ·skip;have HQ2:Hid (rr=(n1,[Raf.tellF n1 m.m.src false n1.es.length])):=HQ.trans (if_pos (by simpa using d9));have HLA:=h_ (fun w' (hb:Below v4.heap.size v4 w')=>last_nd ((HN1.next HBc.out).next hb) HOK.out);go_upto_region 7 with fail;refine wrq (fun l w'=>(w'.cell? ⟨w.heap.size,1,none⟩=some (.int .i64 m.m.src))) ?_;obtain⟨v5,hwd⟩:∃y,y=World.drew v4:=⟨_,rfl⟩;rw[←hwd];have hb:Below v4.heap.size v4 v5:=by rw[hwd];exact b_.drew
  clear hwd;have HB5:=h_ hb;clear hb;refine toS ((HM1.next (HBc.trans (HB5.mono HBc.size))).box.cell (j:=1) rfl) ?_;refine tkq 0 ?_;refine tkq 1 ?_;refine tkq 2 ?_;refine tkq 3 ?_;refine soq 4 (fun K hK=> ?_);go_simp;go_at_call 50
  with_reducible refine(HLA.out _ HB5.out).mono ?_
  rintro en v6 ⟨rfl,hb6⟩;have HB6:=h_ (HBc.trans ((HB5.trans (hb6.mono HB5.size)).mono HBc.size));clear hb6;refine hK.out _ _ ((HM1.next HB6.out).box.cell (j:=1) rfl) ?_;clear hK K;refine soq 5 (fun K hK=> ?_);go_simp;have HTL:=h_ (tell_nd (HN1.next HB6.out) (HE1.next HB6.out) m.m.src false n1.es.length (by have:=HL.out;omega));go_at_call 63
  with_reducible refine HTL.out.mono ?_
  rintro en v7 ⟨rfl,T4,sl4,sa4,sc4,hst4,hnd4,hef4,hml4⟩;have HF4:=h_ (And.intro hst4 (And.intro hnd4 (And.intro hef4 hml4)));have HM7:=h_ ((HM1.next HB6.out).block (hst4.keep.block _ (HM1.next HB6.out).lt (fun h5=>by have h6:=HTW.out _ h5;omega)));clear hst4 hnd4 hef4 hml4;refine hK.out _ _ (HM7.box.cell (j:=1) rfl) ?_;clear hK K;refine sdq ?_;go_wp2_with fail;go_end0;exact⟨rfl,T4,({x with n:=n1}:Nd),{e with sl:=sl4,sa:=sa4,sc:=sc4},HST1.trans ((Stp.below HB6.out).trans HF4.1),by rw[HQ2.out],HF4.2.1,HF4.2.2.1,by rw[HQ2.out];exact HF4.2.2.2⟩
theorem appendAsk_nd{S T:Nat→ Prop}{w:World}{g:Nat}{x:Nd}{e:Ef}{D:Nat}(h:NdAt S T w g x e)(he:EfAt S T w g e)(hg:Gd x.n D)(m:Ms)(hm:MsAt (Un S T) w m)(now:Int)(hn0:0≤ now)(hn1:now≤ 1099511627776)(hl:e.sl.length≤ 900000)(hml:m.es.length≤ 1000000):
 Calls Tryz.prog 33 #[.pointer (some ⟨g,0,none⟩),.agg (cellsMs m).toArray,.int .i64 now] w (RetSt S T w g e (appendAskF x.n m.m now).1 (appendAskF x.n m.m now).2):=by
 by_cases ht:m.m.term< x.n.hT
 ·exact appendAsk_no h he hg m hm now hn0 hn1 hl hml ht
 ·exact appendAsk_yes h he hg m hm now hn0 hn1 hl hml o_
end Go.Proofs.YtoeofkcpclfnhaaGreat
namespace Go.Proofs.YtoeofkcpclfnhaaGreat.Raf
set_option maxHeartbeats 16000000
def cfE(e:WEnt):Option (Nat→Bool):=if e.kind=1 then some (fun j=>inSet e.set.toNat j)else none
def c7:Nat→ Bool:=fun j=>inSet 7 j
abbrev InvE(x:Sys WEnt):Prop:= Inv WEnt.term cfE c7 x
structure Ok(x:Sys WEnt)(T N:Nat):Prop where
 inv:InvE x
 ge:∀t,goodEs 0 (x.g.L t)=true
 len:∀t,(x.g.L t).length≤N
 tb:∀v,(x.ns v).term≤T
structure Rep(n:RN)(y:Nd WEnt):Prop where
 term:y.term= n.hT
 vote:(y.vote:Int)=n.hV
 log:y.log= n.es
 role:(y.role:Int)=n.role
 com:(y.com:Int)=n.com
 yes:y.yes= fun j=>inSet n.yes.toNat j
 mat:∀j: Nat,(y.mat j:Int)=matOf n.p j
 base:n.base= 7
def OkM(x:Sys WEnt)(m:WMsg):Prop:=
 ∃src dst:Nat,m.src=src∧ m.dst=dst∧ 1≤src∧ src≤7∧ 1≤m.kind∧ m.kind≤4∧ 1≤m.term∧
 (m.kind=1→ ∃ml,x.ck m.term src=some ml∧m.index= ml.length∧m.last= lt WEnt.term ml)∧
 (m.kind=2→ m.ok=true→ ∃l,x.g.vt m.term src=some (dst,l))∧
 (m.kind=3→ ∃e i c,x.g.el m.term=some (src,e)∧m.index= (i:Nat)∧i≤ (x.g.L m.term).length∧m.last= lt WEnt.term ((x.g.L m.term).take i)∧m.entries= ((x.g.L m.term).drop i).take m.entries.length∧m.commit= (c:Nat)∧c≤ (x.g.L m.term).length∧ComT x.g m.term ((x.g.L m.term).take c))∧
 (m.kind=4→ m.ok=true→ ∃i: Nat,m.index=i∧ i≤x.g.ack m.term src)
theorem certs_len{x:Sys WEnt}(h:InvE x):∀s i m,x.g.cert s i m→m≤ (x.g.L s).length∧i≤ m:=fun s i m hc=>by
 obtain⟨_,_,k3,k4,_⟩:=h.hist.cert s i m hc;exact⟨k4,k3⟩
theorem OkM.ext{x y:Sys WEnt}(h:InvE x)(k:Ext x y){m:WMsg}(o:OkM x m):OkM y m:=by
 obtain⟨src,dst,e1,e2,a1,a2,a3,a4,a5,h1,h2,h3,h4⟩:=o;refine⟨src,dst,e1,e2,a1,a2,a3,a4,a5,fun e=> ?_,fun e f=> ?_,fun e=> ?_,fun e f=> ?_⟩
 ·obtain⟨ml,k1,k2⟩:=h1 e;exact⟨ml,k.ck _ _ _ k1,k2⟩
 ·obtain⟨l,k1⟩:=h2 e f;exact⟨l,k.vt _ _ _ k1⟩
 ·obtain⟨e,i,c,k1,k2,k3,k4,k5,k6,k7,k8⟩:=h3 e;have hl:=k.len m.term;refine⟨e,i,c,k.el _ _ k1,k2,by omega,by rw[k.take k3];exact k4,?_,k6,by omega,?_⟩
  ·obtain⟨r,hr⟩:=k.L m.term;have k9:=congrArg List.length k5;rw[List.length_take,List.length_drop]at k9;rw[hr,List.drop_append_of_le_length k3,List.take_append_of_le_length (by rw[List.length_drop];omega)];exact k5
  ·rw[k.take k7];exact k8.ext k (certs_len h)
 ·obtain⟨i,k1,k2⟩:=h4 e f;exact⟨i,k1,Nat.le_trans k2 (k.ack _ _)⟩
theorem lt_lastT(l:List WEnt):lt WEnt.term l=lastT 0 l:=by
 by_cases h:0< l.length
 ·rw[lt_get _ h,lastT_get h]
 ·have e:l.length= 0:=o_;rw[List.length_eq_zero_iff.1 e];rfl
theorem goodEs_take'{l:List WEnt}(h:goodEs 0 l=true)(n:Nat):goodEs 0 (l.take n)=true:= by
 have e:=goodEs_append (l.take n) (l.drop n) 0;rw[List.take_append_drop,h]at e;have:=e.symm;rw[Bool.and_eq_true]at this;exact this.1
theorem Ok.good{x:Sys WEnt}{T N:Nat}(h:Ok x T N){l:List WEnt}(hg:Good WEnt.term x.g l):goodEs 0 l=true∧ l.length≤N:= by
 by_cases h0:0< l.length
 ·have h1:=(hg.last h0).2;have h2:=hg.le h0;refine⟨by rw[h1];exact goodEs_take' (h.ge _) _,Nat.le_trans h2 (h.len _)⟩
 ·have e:l.length= 0:=o_;rw[List.length_eq_zero_iff.1 e];exact⟨rfl,Nat.zero_le _⟩
theorem ok_of{l:List WEnt}(h:goodEs 0 l=true)(hl:l.length≤ 4096):okR 0 0 l=true:= by
 rw[okR_iff,headR_iff];refine⟨⟨by omega,hl,by omega,by omega,by simp⟩,h⟩
def setOf(e:WEnt):Option UInt8:=if e.kind=1 then some e.set else none
theorem latS_go(l:List WEnt):∀(s:UInt8) (k i:Nat),(l.foldl (fun(r:(UInt8×Nat)×Nat) x=>((if x.kind=1 then(x.set,r.2+1)else r.1),r.2+1)) ((s,k),i)).1.1=((l.filterMap setOf).getLast?).getD s:=by
 induction l with
 |nil=> intro s k i;rfl
 |cons x l ih=>
  intro s k i;rw[List.foldl_cons];by_cases h:x.kind= 1
  ·rw[List.filterMap_cons_some (show setOf x=some x.set from if_pos h),if_pos h,ih];cases hl:l.filterMap setOf with
   |nil=> rfl
   |cons a b=>rw [List.getLast?_cons_cons];rfl
  ·rw[List.filterMap_cons_none (show setOf x=none from if_neg h),if_neg h];exact ih _ _ _
theorem latS_eq(b:UInt8)(l:List WEnt):(latS b l).1=((l.filterMap setOf).getLast?).getD b:=latS_go l b 0 0
theorem lat_latS(l:List WEnt):lat cfE c7 l=fun j=>inSet (latS 7 l).1.toNat j:=by
 rw[latS_eq];unfold lat;have e:l.filterMap cfE=(l.filterMap setOf).map (fun s j=>inSet s.toNat j):=by
  rw[List.map_filterMap]
  congr 1
  funext x
  unfold cfE setOf;by_cases h:x.kind= 1
  ·rw[if_pos h,if_pos h];rfl
  ·rw[if_neg h,if_neg h];rfl
 rw[e,List.getLast?_map];cases (l.filterMap setOf).getLast? with
 |none=> rfl
 |some a=>rfl
theorem num_size(s:Nat):num (fun j=>inSet s j)=sizeS s 7:=by
 have e:∀j,(inSet s j).toNat=if inSet s j then 1 else 0:=fun j=>by cases inSet s j<;>rfl
 show(inSet s 1).toNat+(inSet s 2).toNat+(inSet s 3).toNat+(inSet s 4).toNat+(inSet s 5).toNat+(inSet s 6).toNat+(inSet s 7).toNat=_
 simp only[e,sizeS,Nat.zero_add,Nat.reduceAdd]
theorem maj_com{s:Nat}{self:Int}{l:List Prg}{i:Int}(h:sizeS s 7<2* cntS s self l i 7):Maj (fun j=>inSet s j) (fun j=>decide ((j:Int)=self)||decide (i≤matOf l j)):=by
 unfold Maj;rw[num_size];have e:num (fun j=>inSet s j&&(decide ((j:Int)=self)||decide (i≤matOf l j)))=cntS s self l i 7:=by
  have e:∀j: Nat,(inSet s j&&(decide ((j:Int)=self)||decide (i≤matOf l j))).toNat=if yesS s self l i j then 1 else 0:=fun j=>by
   show _=if (inSet s j&&(decide ((j:Int)=self)||decide (i≤matOf l j)))then 1 else 0
   cases (inSet s j&&(decide ((j:Int)=self)||decide (i≤matOf l j)))<;>rfl
  show(_:Bool).toNat+(_:Bool).toNat+(_:Bool).toNat+(_:Bool).toNat+(_:Bool).toNat+(_:Bool).toNat+(_:Bool).toNat=0+ _+_+ _+_+ _+_+ _
  rw[e 1,e 2,e 3,e 4,e 5,e 6,e 7];simp only[Nat.zero_add,Nat.reduceAdd]
 rw[e];exact h
variable {x:Sys WEnt} {T N k:Nat} {n:RN}
def To(x:Sys WEnt)(T N k:Nat)(n:RN)(ms:List WMsg):Prop:= ∃y,Ok y T N∧Ext x y∧(∀j,j≠k→ y.ns j=x.ns j)∧Rep n (y.ns k)∧∀m∈ ms,OkM y m∧m.term≤ T
theorem To.here(h:Ok x T N)(r:Rep n (x.ns k)):To x T N k n []:=⟨x,h,Ext.refl x,fun _ _=>rfl,r,fun _ hm=>by cases hm⟩
theorem To.bind{T' N':Nat}{n':RN}{ms ms':List WMsg}(h:To x T N k n ms)(ht:T≤ T')(f:∀y,Ok y T N→Rep n (y.ns k)→Ext x y→To y T' N' k n' ms'):To x T' N' k n' (ms++ms'):=by
 obtain⟨y,h1,h2,h3,h4,h5⟩:=h;obtain⟨z,k1,k2,k3,k4,k5⟩:=f y h1 h4 h2;refine⟨z,k1,h2.trans k2,fun j hj=>(k3 j hj).trans (h3 j hj),k4,fun m hm=> ?_⟩;rcases List.mem_append.1 hm with hm|hm
 ·exact⟨(h5 m hm).1.ext h1.inv k2,by have:=(h5 m hm).2;omega⟩
 ·exact k5 m hm
theorem To.same{n':RN}{ms:List WMsg}(h:To x T N k n ms)(f:∀y,Rep n y→Rep n' y):To x T N k n' ms:=by
 obtain⟨y,h1,h2,h3,h4,h5⟩:=h;exact⟨y,h1,h2,h3,f _ h4,h5⟩
theorem To.more{ms ms':List WMsg}(h:To x T N k n ms)(f:∀y,Ok y T N→Rep n (y.ns k)→Ext x y→∀m∈ ms',OkM y m∧m.term≤ T):To x T N k n (ms++ms'):=by
 obtain⟨y,h1,h2,h3,h4,h5⟩:=h;refine⟨y,h1,h2,h3,h4,fun m hm=> ?_⟩;rcases List.mem_append.1 hm with hm|hm
 ·exact h5 m hm
 ·exact f y h1 h4 h2 m hm
theorem Ok.mono{T' N':Nat}(h:Ok x T N)(ht:T≤ T')(hn:N≤ N'):Ok x T' N':=⟨h.inv,h.ge,fun t=>Nat.le_trans (h.len t) hn,fun v=>by have:=h.tb v;omega⟩
theorem To.mono{T' N':Nat}{ms:List WMsg}(h:To x T N k n ms)(ht:T≤ T')(hn:N≤ N'):To x T' N' k n ms:=by
 obtain⟨y,h1,h2,h3,h4,h5⟩:=h;exact⟨y,h1.mono ht hn,h2,h3,h4,fun m hm=>⟨(h5 m hm).1,by have:=(h5 m hm).2;omega⟩⟩
theorem Ok.okB{m:WMsg}(h:Ok x T N)(r:Rep n (x.ns k))(o:OkM x m)(e:m.term= n.hT):OkM x m∧m.term≤ T:=⟨o,by rw[e,←r.term];exact h.tb k⟩
theorem Rep.role_nat{y:Nd WEnt}(r:Rep n y){c:Nat}(h:n.role= c):y.role= c:=by have:=r.role;omega
theorem Rep.again{y:Nd WEnt}(r:Rep n y)(now:Int):Rep (again n now) y:=by
 unfold Go.Proofs.YtoeofkcpclfnhaaGreat.Raf.again
 split<;>exact ⟨r.term,r.vote,r.log,r.role,r.com,r.yes,r.mat,r.base⟩
theorem again_is(n:RN)(now:Int):(again n now).self=n.self∧ (again n now).hT=n.hT∧ (again n now).es=n.es∧ (again n now).base=n.base∧ (again n now).role=n.role∧ (again n now).com=n.com∧ (again n now).p=n.p∧ (again n now).hV=n.hV∧ (again n now).yes=n.yes:= by
 unfold again
 split<;>exact ⟨rfl,rfl,rfl,rfl,rfl,rfl,rfl,rfl,rfl⟩
theorem Rep.set{y:Nd WEnt}(r:Rep n y):lat cfE c7 y.log=fun j=>inSet n.set j:=by
 rw[r.log,lat_latS];unfold RN.set;rw[r.base]
theorem tq54 {P:Prop}(h:P:=by
 show(upd x.ns k _ v).term≤_
 by_cases e:v= k
 ·subst e;rw[upd_same];exact h.tb v
 ·rw[upd_ne _ _ e];exact h.tb v):P:=h
theorem to_follow(h:Ok x T N)(r:Rep n (x.ns k))(kn:Int):To x T N k {n with role:=0,known:=kn} []:=by
 have hv:=h.inv.now k;refine⟨{x with ns:=upd x.ns k {x.ns k with role:=0}},⟨h.inv.node k _ rfl (Int.le_refl _) hv (fun e=>by cases e) (fun e=>by cases e) (h.inv.com k),h.ge,h.len,fun v=> ?_⟩,Ext.node x _,fun j hj=>upd_ne _ _ hj,?_,fun _ hm=>by cases hm⟩
 ·exact tq54
 ·show Rep _ (upd x.ns k _ k)
  rw[upd_same];exact⟨r.term,r.vote,r.log,rfl,r.com,r.yes,r.mat,r.base⟩
theorem to_end(h:Ok x T N)(r:Rep n (x.ns k)):To x T N k (endF n) []:=by
 unfold endF
 split
 ·exact to_follow h r 0
 ·exact To.here h r
theorem to_rise(h:Ok x T N)(r:Rep n (x.ns k)){t:Int}(ht:t≤ T):To x T N k (riseF n t) []:=by
 unfold riseF
 split
 ·rename_i hlt
  have hlt':(x.ns k).term<t:= by rw[r.term];exact hlt
  refine⟨rise x k t,⟨h.inv.rise hlt',h.ge,h.len,fun v=> ?_⟩,Ext.node x _,fun j hj=>upd_ne _ _ hj,?_,fun _ hm=>by cases hm⟩
  ·show(upd x.ns k _ v).term≤_
   by_cases e:v= k
   ·subst e;rw[upd_same];exact ht
   ·rw[upd_ne _ _ e];exact h.tb v
  ·show Rep _ (upd x.ns k _ k)
   rw[upd_same];exact⟨rfl,rfl,r.log,rfl,r.com,r.yes,r.mat,r.base⟩
 ·exact To.here h r
theorem to_grant(h:Ok x T N)(r:Rep n (x.ns k)){m:WMsg}(hm:OkM x m)(hk:m.kind= 1)(ht:m.term= n.hT)(hv:n.hV= 0∨n.hV= m.src)(hn:newer n.es m.index m.last=true):
 ∃y,Ok y T N∧Ext x y∧(∀j,j≠k→ y.ns j=x.ns j)∧Rep {n with hV:=m.src} (y.ns k)∧∃src: Nat,m.src=src∧ ∃l,y.g.vt n.hT k=some (src,l):=by
 obtain⟨src,dst,e1,e2,a1,a2,a3,a4,a5,h1,_⟩:=hm;obtain⟨ml,k1,k2,k3⟩:=h1 hk;have hnow:=h.inv.now k;rw[r.term]at hnow;have hvt:=r.vote;rcases e:x.g.vt n.hT k with _|⟨c,l⟩
 ·have hnone:x.g.vt (x.ns k).term k=none:= by rw[r.term];exact e
  have hup:UpTo WEnt.term (x.ns k).log ml:=by
   unfold newer at hn;have hn':=of_decide_eq_true hn;rw[r.log];unfold UpTo;rw[lt_lastT,←k3];rcases hn' with h2|⟨h2,h3⟩
   ·exact .inl h2
   ·exact .inr ⟨h2.symm,by omega⟩
  have hck:x.ck (x.ns k).term src=some ml:=by rw[r.term,←ht];exact k1
  refine⟨grant x k src,⟨h.inv.grant o_ hnone hck hup,h.ge,h.len,fun v=> ?_⟩,Ext.grant hnone,fun j hj=>upd_ne _ _ hj,?_,src,e1,(x.ns k).log,?_⟩
  ·exact tq54
  ·show Rep _ (upd x.ns k _ k)
   rw[upd_same];exact⟨r.term,e1.symm,r.log,r.role,r.com,r.yes,r.mat,r.base⟩
  ·show(if n.hT=(x.ns k).term∧k= k then some (src,(x.ns k).log)else _)=_
   rw[if_pos ⟨r.term.symm,rfl⟩]
 ·rw[e]at hnow;have hc:(x.ns k).vote=c:= hnow;have hc0:=h.inv.vt0 _ _ _ _ e;have hcs:c= src:=by
   rcases hv with h2|h2
   ·omega
   ·omega
  subst hcs;exact⟨x,h,Ext.refl x,fun _ _=>rfl,⟨r.term,by show((x.ns k).vote:Int)=m.src;omega,r.log,r.role,r.com,r.yes,r.mat,r.base⟩,c,e1,l,e⟩
theorem inSet_bit{k:Nat}(h1:1≤ k)(h2:k≤ 7)(j:Nat):inSet (bitOf k).toNat j=true→ j=k:= by
 intro h;have hj:=of_decide_eq_true h;have key:∀(a:Fin 7) (b:Fin 7),(bitOf ((a.val+1: Nat):Int)).toNat/2^ (b.val+1- 1)%2= 1→b= a:=by decide+kernel
 have:=key ⟨k-1,by omega⟩ ⟨j-1,by omega⟩ (by
  show(bitOf ((k-1+ 1:Nat):Int)).toNat/2^ (j-1+ 1-1)%2= 1
  rw[show k-1+ 1=k by omega,show j-1+ 1-1= j-1 by omega]
  exact hj.2.2)
 have:=congrArg Fin.val this;simp only at this;omega
theorem to_stand(h:Ok x T N)(r:Rep n (x.ns k))(hk1:1≤ k)(hk7:k≤ 7)(hs:n.self= k):
 To x (T+1) N k {n with hT:=n.hT+ 1,hV:=n.self,role:=1,known:=0,yes:=bitOf n.self} ((others n).map fun j=>{emptyM with kind:=1,src:=n.self,dst:=j,term:=n.hT+ 1,index:=n.es.length,last:=lastT 0 n.es}):=by
 have hlt:(x.ns k).term<n.hT+ 1:=by rw[r.term];omega
 have hp:=h.inv.term0 k;rw[r.term]at hp;have htb:=h.tb k;rw[r.term]at htb;have i1:=h.inv.rise hlt;have n1:(rise x k (n.hT+1)).ns k={x.ns k with term:=n.hT+ 1,vote:=0,role:=0}:=upd_same _ _ _;have hck:(rise x k (n.hT+1)).ck (n.hT+1) k=none:= h.inv.ck_none hlt;obtain⟨i2,x2⟩:=i1.setck (l:=n.es) hck (by rw[n1];exact Int.le_refl _);have n2:(setck (rise x k (n.hT+1)) (n.hT+1) k n.es).ns k={x.ns k with term:=n.hT+ 1,vote:=0,role:=0}:=n1;have hvt:(setck (rise x k (n.hT+1)) (n.hT+1) k n.es).g.vt ((setck (rise x k (n.hT+1)) (n.hT+1) k n.es).ns k).term k=none:= by rw[n2];exact h.inv.vt_none hlt
 have hck2:(setck (rise x k (n.hT+1)) (n.hT+1) k n.es).ck ((setck (rise x k (n.hT+1)) (n.hT+1) k n.es).ns k).term k=some n.es:=by
  rw[n2];exact if_pos ⟨rfl,rfl⟩
 have i3:=i2.grant (c:=k) o_ hvt hck2 (by rw[n2];show UpTo _ (x.ns k).log _;rw[r.log];exact .inr ⟨rfl,Nat.le_refl _⟩);have x3:=Ext.grant (x:=setck (rise x k (n.hT+1)) (n.hT+1) k n.es) (c:=k) hvt;have n3:(grant (setck (rise x k (n.hT+1)) (n.hT+1) k n.es) k k).ns k={x.ns k with term:=n.hT+ 1,vote:=k,role:=0}:=by
  show upd _ k _ k=_
  rw[upd_same,n2]
 have hvt3:(grant (setck (rise x k (n.hT+1)) (n.hT+1) k n.es) k k).g.vt (n.hT+1) k=some (k,(x.ns k).log):=by
  show(if n.hT+1= ((setck (rise x k (n.hT+1)) (n.hT+1) k n.es).ns k).term∧k= k then some (k,((setck (rise x k (n.hT+1)) (n.hT+1) k n.es).ns k).log)else _)=_
  rw[n2];exact if_pos ⟨rfl,rfl⟩
 have hlow:=h.inv.low k
 have i4:=i3.node k {x.ns k with term:=n.hT+ 1,vote:=k,role:=1,yes:=fun j=>inSet (bitOf n.self).toNat j} (by rw[n3]) (by rw[n3];exact Int.le_refl _) (by
  show k=((_:Option _).map Prod.fst).getD 0
  rw[hvt3];rfl) (fun _=>⟨by
   show(if n.hT+1= n.hT+1∧ k=k then some n.es else _)=some (x.ns k).log
   rw[if_pos ⟨rfl,rfl⟩,r.log],by show lt WEnt.term (x.ns k).log<n.hT+ 1;rw[r.term]at hlow;omega,by show 1≤n.hT+ 1;omega,fun c m he=>by
    rintro rfl;have h9:n.hT+ 1≤(x.ns c).term:=h.inv.elt _ _ _ he;omega,fun j hj=>by
    have hj':inSet (bitOf n.self).toNat j=true:= hj;rw[hs]at hj';rw[inSet_bit hk1 hk7 j hj']
    exact⟨_,hvt3⟩⟩) (fun e=>by cases e) (by
  obtain⟨c1,c2⟩:=h.inv.com k
  exact⟨c1,c2.mono (Int.le_of_lt hlt)⟩)
 have xx:Ext x (grant (setck (rise x k (n.hT+1)) (n.hT+1) k n.es) k k):=(Ext.node x _).trans (x2.trans x3);refine⟨_,⟨i4,h.ge,h.len,fun v=> ?_⟩,xx.trans (Ext.node _ _),fun j hj=> ?_,?_,fun m hm=> ?_⟩
 ·show(upd (grant (setck (rise x k (n.hT+1)) (n.hT+1) k n.es) k k).ns k _ v).term≤_
  by_cases e:v= k
  ·subst e;rw[upd_same];show n.hT+1≤ _;omega
  ·rw[upd_ne _ _ e];show(upd (upd x.ns k _) k _ v).term≤_
   rw[upd_ne _ _ e,upd_ne _ _ e];have:=h.tb v;omega
 ·show upd (upd (upd x.ns k _) k _) k _ j=_
  rw[upd_ne _ _ hj,upd_ne _ _ hj,upd_ne _ _ hj]
 ·show Rep _ (upd _ k _ k)
  rw[upd_same];exact⟨rfl,hs.symm,r.log,rfl,r.com,rfl,r.mat,r.base⟩
 ·obtain⟨j,hj,rfl⟩:=List.mem_map.1 hm;unfold others at hj;obtain⟨i,hi,rfl⟩:=List.mem_map.1 hj;refine⟨?_,by show n.hT+1≤ _;omega⟩;refine⟨k,i+1,hs,rfl,hk1,hk7,(show(1:Int)≤1 by decide),(show(1:Int)≤4 by decide),by show 1≤n.hT+ 1;omega,fun _=> ?_,fun e=>absurd (show(1:Int)=2 from e) d_,fun e=>absurd (show(1:Int)=3 from e) d_,fun e=>absurd (show(1:Int)=4 from e) d_⟩;refine⟨n.es,if_pos ⟨rfl,rfl⟩,rfl,(lt_lastT _).symm⟩
end Go.Proofs.YtoeofkcpclfnhaaGreat.Raf
