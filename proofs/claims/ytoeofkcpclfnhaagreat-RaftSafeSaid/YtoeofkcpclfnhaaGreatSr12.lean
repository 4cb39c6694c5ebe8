import Derived.Test.YtoeofkcpclfnhaaGreatSr11
set_option linter.unusedVariables false
set_option linter.unusedSimpArgs false
namespace Go.Proofs.YtoeofkcpclfnhaaGreat
open Go.ChangeShapes Go.WideShapes Go.ChangeAt Go.RowKit
set_option maxRecDepth 100000
set_option maxHeartbeats 16000000
theorem ask_nosnap(es:List WEnt)(nx most:Int):(askF 0 0 es nx most).2.2.1=false:= by
 unfold askF
 split
 ·split
  ·rfl
  ·split
   ·rename_i h1 h2;omega
   ·rfl
 ·rfl
theorem el_msg:Elem Tryz.prog 35 59 14 160:=layMs.elem Tryz.underlying35
def RetIn(S T:Nat→ Prop)(w:World)(g:Nat)(x:Nd)(e:Ef)(ms:List WMsg)(en:Ending)(w':World):Prop:= en= .returned (.tuple #[])∧∃(T':Nat→ Prop) (sl:List Ms) (sa:Option Addr) (sc:Nat),Stp T w T' w'∧NdAt S T' w' g x {e with sl:=sl,sa:=sa,sc:=sc}∧EfAt S T' w' g {e with sl:=sl,sa:=sa,sc:=sc}∧sl.map Ms.m=e.sl.map Ms.m++ms
theorem sent_in{S T:Nat→ Prop}{w w1 w2 w3 w4:World}{g:Nat}{x:Nd}{e:Ef}{m:Ms}{sa:Option Addr}{sc:Nat}(h:NdAt S T w g x e)(he:EfAt S T w g e)(h1:Below w.heap.size w w1)(hm:MsAt (Un S T) w1 m)(h2:Below w1.heap.size w1 w2)(ho:OwnO w3 59 14 sa (e.sl.length+1) sc (e.sl.flatMap cellsMs++cellsMs m))(hg:w2.grownBy w3 (blkOf e.sa))(hn:∀j,blkOf sa=some j→blkOf e.sa=some j∨w2.heap.size≤ j)(hw:Wrote g w3 w4)(hb:Bex w4 g ((cellsN x e).set 4 (.slice sa (e.sl.length+1) sc))):
 RetIn S T w g x e [m.m] (.returned (.tuple #[])) w4:=by
 replace hb:Bex w4 g (cellsN x {e with sl:=e.sl++ [m],sa:=sa,sc:=sc}):=by
  have h0:(e.sl++[m]).length=e.sl.length+ 1:=by simp
  show Bex w4 g (cellsN x {e with sl:=e.sl++ [m],sa:=sa,sc:=sc})
  rw[show cellsN x {e with sl:=e.sl++ [m],sa:=sa,sc:=sc}=(cellsN x e).set 4 (.slice sa (e.sl++[m]).length sc)from rfl,h0];exact hb
 have hgl:=h.lt;have h12:Below w.heap.size w w2:=h1.trans (h2.mono h1.size);have h3b:OwnO w3 59 14 sa (e.sl++[m]).length sc ((e.sl++[m]).flatMap cellsMs):=by
  rw[List.length_append,List.flatMap_append];simpa using ho
 let T':Nat→ Prop:=fun k=>T k∨blkOf sa=some k
 have hlt:∀k,blkOf sa=some k→k< w3.heap.size:=h3b.lt;have hne:∀k,blkOf sa=some k→k≠ g:=fun k hk e2=>by
  rcases hn k hk with h5|h5
  ·exact(he.in_ k h5).2 e2
  ·have:=h12.size;omega
 have hnew:∀k,k<w2.heap.size→ T' k→T k:=fun k hk h5=>by
  rcases h5 with h5|h5
  ·exact h5
  ·rcases hn k h5 with h6|h6
   ·exact(he.in_ k h6).1
   ·omega
 have hs23:Stp T w2 T' w3:=⟨.grown hg (fun k hk=>(he.in_ k hk).1),fun _ h5=> .inl h5,hnew,fun k h5=>h5.imp id (hlt k)⟩;have hs34:Stp T' w3 T' w4:= .wrote hw (.inl h.tg);have hs14:Stp T w1 T' w4:=((Stp.below (T:=T) h2).trans hs23).trans hs34;have hs:Stp T w T' w4:=(Stp.below (T:=T) h1).trans hs14;have hgk:w3.heap[g]? =w.heap[g]?:=by
  rw[hg.block g (by have:=h12.size;omega) (fun e2=>(he.in_ g e2.symm).2 rfl)];exact h12.block g hgl
 have hN3:NdAt S T' w3 g x e:=h.stp ((Stp.below (T:=T) h12).trans hs23) hgk
 refine⟨rfl,T',e.sl++[m],sa,sc,hs,hN3.num hw hb rfl rfl rfl,⟨?_,fun k hk=>⟨.inr hk,hne k hk⟩,fun y hy=> ?_,he.add.stp hs,he.adl,fun k hk h5=>by
  rcases hn k hk with h6|h6
  ·exact he.ns k h6 h5
  ·have:=h.os k h5;have:=h12.size;omega⟩,?_⟩
 ·exact h3b.keep (fun k hk=>hw.keep k (hne k hk))
 ·rcases List.mem_append.1 hy with hy|hy
  ·exact(he.msgs y hy).step hs.keep (fun _ h5=> .inr h5) (fun k hk h5=>h5.imp id (hs.new k hk))
  ·rw[List.mem_singleton]at hy;subst hy;exact hm.step hs14.keep (fun _ h5=> .inr h5) (fun k hk h5=>h5.imp id (hs14.new k hk))
 ·rw[List.map_append];rfl
theorem tell_nd{S T:Nat→ Prop}{w:World}{g:Nat}{x:Nd}{e:Ef}(h:NdAt S T w g x e)(he:EfAt S T w g e)(k:Int)(ok:Bool)(i:Int)(hl:e.sl.length≤ 1000000):
 Calls Tryz.prog 63 #[.pointer (some ⟨g,0,none⟩),.int .i64 k,.bool ok,.int .i64 i] w (RetIn S T w g x e [Raf.tellF x.n k ok i]):=by
 have HN:=h_ h;have HE:=h_ he;have hgl:=h.lt;clear h he;go_enter Tryz.func63,Tryz.ntmps63;go_wp2_with fail;refine wrq (fun l w'=>(w'.cell? ⟨g,6,none⟩=some (.int .i64 x.n.self)∧w'.cell? ⟨g,11,none⟩=some (.int .i64 x.n.hT))∧Till 27 l (w'.cell? ⟨g,4,none⟩=some (.slice e.sa e.sl.length e.sc))) ?_;obtain⟨w1,hwd⟩:∃y,y=World.drew w:=⟨_,rfl⟩;rw[←hwd];have hb:Below w.heap.size w w1:=by rw[hwd];exact b_.drew
 clear hwd;have HB1:=h_ hb;have HN1:=h_ (HN.next hb);have hz1:=hb.size;clear hb;refine toS ⟨⟨HN1.bex.box.cell (j:=6) rfl,HN1.bex.box.cell (j:=11) rfl⟩,fun _=>HN1.bex.box.cell (j:=4) rfl⟩ ?_;refine ttq [] 0 ?_;refine ttq [] 1 ?_;refine ttq [] 2 ?_;refine ttq [] 3 ?_;refine ttq [] 4 ?_;refine ttq [] 5 ?_;refine ttq [27] 6 ?_;refine ttq [] 7 ?_;refine ttq [] 8 ?_;refine ttq [] 9 ?_;refine ttq [] 10 ?_;refine ttq [27] 11 ?_;refine ttq [] 12 ?_;refine ttq [] 13 ?_;refine ttq [] 14 ?_;refine ttq [] 15 ?_;refine ttq [] 16 ?_;refine ttq [27] 17 ?_;refine ttq [] 18 ?_;refine ttq [] 19 ?_;refine ttq [] 20 ?_;refine soq 21 (fun K hK=> ?_);go_simp;refine new_block ?_;intro wb hxb hbb hsb;have HB2:=h_ hbb;have HX2:=h_ hxb;have hz2:=hsb;clear hxb hbb hsb;refine hK.out _ _ ⟨⟨(HN1.next HB2.out).bex.box.cell (j:=6) rfl,(HN1.next HB2.out).bex.box.cell (j:=11) rfl⟩,fun _=>(HN1.next HB2.out).bex.box.cell (j:=4) rfl⟩ ?_;clear hK K;refine soq 22 (fun K hK=> ?_);rw[if_pos (by rfl)];refine op_ownO el_msg (.tmp 14) (.tmp 29) rfl e.sa e.sl.length e.sc (e.sl.flatMap cellsMs) rfl ((HE.next (HB1.trans (HB2.mono HB1.size))).own) (some ⟨w1.heap.size,0,none⟩) 1 1 (cellsMs ⟨Raf.tellF x.n k ok i,[],none,0⟩) rfl rfl (Row.of_bex HX2.out) (layMs.one ⟨Raf.tellF x.n k ok i,[],none,0⟩) o_ ?_;intro sa sc w3 ho3 hg3 hn3;have HO3:=h_ ho3;have HG3:=h_ hg3;have HM3:=h_ hn3;have HX3:=h_ ((HN1.next HB2.out).bex.block (hg3.block g o_ (fun e2=>(HE.in_ g e2.symm).2 rfl)));clear ho3 hg3 hn3;refine hK.out _ _ ⟨⟨HX3.box.cell (j:=6) rfl,HX3.box.cell (j:=11) rfl⟩,fun _=>HX3.box.cell (j:=4) rfl⟩ ?_;clear hK K;refine ttq [] 23 ?_;refine ttq [] 24 ?_;refine ttq [] 25 ?_;refine ttq [] 26 ?_;refine soq 27 (fun K hK=> ?_);rw[if_pos (by rfl)];refine op_field_bex (.tmp 34) (.tmp 30) rfl size1_nd.2.2.2.1 g 4 _ (.slice sa (e.sl.length+1) sc) rfl rfl rfl rfl HX3.out (show 4<30 by decide) ?_;intro w4 hx4 hw4;have HX4:=h_ hx4;have HW4:=h_ hw4;clear hx4 hw4;refine hK.out _ _ ⟨⟨HX4.box.cell (j:=6) rfl,HX4.box.cell (j:=11) rfl⟩,fun h=>absurd h d_⟩ ?_;clear hK K;refine sdq ?_;go_end0;exact sent_in (m:=⟨Raf.tellF x.n k ok i,[],none,0⟩) HN.out HE.out HB1.out ⟨.zero _ _,rfl⟩ HB2.out HO3.out HG3.out HM3.out HW4.out HX4.out
theorem ask_mem{es:List WEnt}{nx most:Int}:∀y∈ (askF 0 0 es nx most).2.2.2.2,y∈es:= by
 intro y;unfold askF fromF
 repeat' split
 all_goals
  intro hy
  first
   |exact List.mem_of_mem_drop (List.mem_of_mem_take hy)
   |cases hy
theorem ask_length(b t:Int)(es:List WEnt)(nx most:Int):(askF b t es nx most).2.2.2.2.length≤es.length:= by
 unfold askF fromF
 repeat' split
 all_goals simp
 all_goals omega
theorem send_nd{S T:Nat→ Prop}{w:World}{g:Nat}{x:Nd}{e:Ef}{D:Nat}(h:NdAt S T w g x e)(he:EfAt S T w g e)(hg:Gd x.n D)(k:Int)(hl:e.sl.length≤ 1000000)(hi:InI (Raf.progF x.n k).next):
 Calls Tryz.prog 56 #[.pointer (some ⟨g,0,none⟩),.int .i64 k] w (RetIn S T w g x e [Raf.sendF x.n k]):=by
 have HN:=h_ h;have HE:=h_ he;have hlen:x.es.length= x.n.es.length:=by rw[←h.eq];exact(ents_len _).symm
 have HPG:=h_ (fun w' (hb:Below w.heap.size w w')=>prog_nd (h.next hb) hg k);have HLE:Hid (x.es.length≤4000):=by show _≤_;have:=hg.len;omega
 have HAK:=h_ (fun(p0 p1 p2:Int) (hp:InI p2) w' (hb:Below w.heap.size w w')=>ask_any x.es 0 0 x.ra x.es.length x.rc p0 p1 p2 16 w' rfl (by have:=HLE.out;omega) h.ent.nil h.ent.le (lt_maxLen h.ent.cm) (fun y hy=>⟨(h.ent.each y hy).row.1.below hb,(h.ent.each y hy).len,(h.ent.each y hy).le,(h.ent.each y hy).nil⟩) (h.ent.row.1.below hb) hp);rw[h.eq]at HAK;have HSL:=h_ (ask_length 0 0 x.n.es (Raf.progF x.n k).next 16);have HMM:Hid (∀y∈ (askF 0 0 x.n.es (Raf.progF x.n k).next 16).2.2.2.2,y.data.length≤1000000):=fun y hy=>by
  have h1:=ask_mem y hy;rw[←h.eq]at h1;obtain⟨z,hz,e1⟩:=List.mem_map.1 h1;rw[←e1];exact(h.ent.each z hz).len
 have hsn:=ask_nosnap x.n.es (Raf.progF x.n k).next 16;have HQ:Hid (Raf.sendF x.n k={Raf.emptyM with kind:=3,src:=x.n.self,dst:=k,term:=x.n.hT,index:=(askF 0 0 x.n.es (Raf.progF x.n k).next 16).1,last:=(askF 0 0 x.n.es (Raf.progF x.n k).next 16).2.1,commit:=x.n.com,entries:=(askF 0 0 x.n.es (Raf.progF x.n k).next 16).2.2.2.2}):=rfl;generalize Raf.sendF x.n k=sv at HQ ⊢;generalize Raf.progF x.n k=pv at HPG HQ hi HSL HMM hsn;obtain⟨p0,p1,p2⟩:=pv;have HAQ:=h_ (HAK p0 p1 p2 hi);simp only at hi HSL HMM hsn HQ;generalize askF 0 0 x.n.es p2 16=r at HAQ HSL HMM hsn HQ;obtain⟨r1,r2,r3,r4,r5⟩:=r;simp only at hsn HQ HSL HMM;subst hsn;have HL5:Hid (r5.length≤4000):=by show _≤_;have h1:=HSL.out;have h2:=HLE.out;omega
 have hgl:=h.lt;clear h he hg hlen HAK HSL hi HLE;go_enter Tryz.func56,Tryz.ntmps56;go_wp2_with fail;refine wrq (fun l w'=>(w'.cell? ⟨g,14,none⟩=some (.int .i64 0)∧w'.cell? ⟨g,15,none⟩=some (.int .i64 0)∧w'.cell? ⟨g,16,none⟩=some (.slice x.ra x.es.length x.rc))) ?_;obtain⟨w1,hwd⟩:∃y,y=World.drew w:=⟨_,rfl⟩;rw[←hwd];have hb:Below w.heap.size w w1:=by rw[hwd];exact b_.drew
 clear hwd;have HB1:=h_ hb;clear hb;refine toS ⟨(HN.next HB1.out).bex.box.cell (j:=14) rfl,(HN.next HB1.out).bex.box.cell (j:=15) rfl,(HN.next HB1.out).bex.box.cell (j:=16) rfl⟩ ?_;refine tkq 0 ?_;refine tkq 1 ?_;refine tkq 2 ?_;refine tkq 3 ?_;refine tkq 4 ?_;refine tkq 5 ?_;refine soq 6 (fun K hK=> ?_);go_simp;go_at_call 66
 with_reducible refine(HPG.out _ HB1.out).mono ?_
 rintro en w2 ⟨rfl,hb2⟩;have HB2:=h_ (HB1.trans (hb2.mono HB1.size));clear hb2;refine hK.out _ _ ⟨(HN.next HB2.out).bex.box.cell (j:=14) rfl,(HN.next HB2.out).bex.box.cell (j:=15) rfl,(HN.next HB2.out).bex.box.cell (j:=16) rfl⟩ ?_;clear hK K;refine soq 7 (fun K hK=> ?_);go_simp;go_at_call 78
 with_reducible refine(HAQ.out _ HB2.out).mono ?_
 rintro en w3 ⟨a5,c5,fs,rfl,he5,hr5,hy5,hb3,hn5⟩;have HB3:=h_ (HB2.trans (hb3.mono HB2.size));have HF3:=h_ (And.intro he5 (And.intro hr5 (And.intro hy5 hn5)));clear hb3 he5 hr5 hy5 hn5;refine hK.out _ _ ⟨(HN.next HB3.out).bex.box.cell (j:=14) rfl,(HN.next HB3.out).bex.box.cell (j:=15) rfl,(HN.next HB3.out).bex.box.cell (j:=16) rfl⟩ ?_;clear hK K;refine tkq 8 ?_;refine tkq 9 ?_;refine tkq 10 ?_;refine tkq 11 ?_;refine tkq 12 ?_;refine tkq 13 ?_;refine tkq 14 ?_;refine tkq 15 ?_;refine tkq 16 ?_;refine tkq 17 ?_;refine tkq 18 ?_;refine sdq ?_;go_wp2_with fail;refine wrq (fun l w'=>(w'.cell? ⟨g,6,none⟩=some (.int .i64 x.n.self)∧w'.cell? ⟨g,11,none⟩=some (.int .i64 x.n.hT)∧w'.cell? ⟨g,22,none⟩=some (.int .i64 x.n.com))) ?_;obtain⟨w4,hwd⟩:∃y,y=World.drew w3:=⟨_,rfl⟩;rw[←hwd];have hb:Below w3.heap.size w3 w4:=by rw[hwd];exact b_.drew
 clear hwd;have HB4:=h_ (HB3.trans (hb.mono HB3.size));have HC4:=h_ hb;clear hb;refine toS ⟨(HN.next HB4.out).bex.box.cell (j:=6) rfl,(HN.next HB4.out).bex.box.cell (j:=11) rfl,(HN.next HB4.out).bex.box.cell (j:=22) rfl⟩ ?_;refine tkq 0 ?_;refine tkq 1 ?_;refine tkq 2 ?_;refine tkq 3 ?_;refine tkq 4 ?_;refine tkq 5 ?_;refine tkq 6 ?_;refine tkq 7 ?_;refine tkq 8 ?_;refine tkq 9 ?_;refine tkq 10 ?_;refine tkq 11 ?_;refine tkq 12 ?_;refine tkq 13 ?_;refine tkq 14 ?_;refine tkq 15 ?_;refine soq 16 (fun K hK=> ?_);go_simp;refine new_block ?_;intro wb hxb hbb hsb;have hz5:=hsb;have HD5:=h_ hbb;have HB5:=h_ (HB4.trans (hbb.mono HB4.size));have HX5:=h_ hxb;clear hxb hbb hsb;refine hK.out _ _ ⟨(HN.next HB5.out).bex.box.cell (j:=6) rfl,(HN.next HB5.out).bex.box.cell (j:=11) rfl,(HN.next HB5.out).bex.box.cell (j:=22) rfl⟩ ?_;clear hK K;refine soq 17 (fun K hK=> ?_);rw[if_pos (by rfl)];refine op_store_bex layMs (.tmp 9) (.tmp 39) rfl w4.heap.size ⟨{Raf.emptyM with kind:=3,src:=x.n.self,dst:=k,term:=x.n.hT,commit:=x.n.com},[],none,0⟩ _ rfl rfl HX5.out rfl ?_;intro w6 hx6 hw6;have hz4:=HB4.size;have HB6:=h_ (HB5.trans (hw6.below _ hz4));have HX6:=h_ hx6;have HW6:Hid (Below w4.heap.size w4 w6):=⟨(hw6.below 0 (Nat.zero_le _)).os.trans HD5.os,(hw6.below 0 (Nat.zero_le _)).tape.trans HD5.tape,(hw6.below 0 (Nat.zero_le _)).output.trans HD5.output,by have:=hw6.size;have:=HD5.size;omega,fun q hq=>(hw6.keep q o_).trans (HD5.block q hq)⟩;have hz6:=hw6.size;clear hx6 hw6;refine hK.out _ _ ⟨(HN.next HB6.out).bex.box.cell (j:=6) rfl,(HN.next HB6.out).bex.box.cell (j:=11) rfl,(HN.next HB6.out).bex.box.cell (j:=22) rfl⟩ ?_;clear hK K;refine sdq ?_;have hM:w4.heap.size< w6.heap.size:=o_;have hMw:w.heap.size≤ w4.heap.size:=HB4.size;have HU:Hid (Old (fun j=>Un S T j∨j= w4.heap.size) w6):=fun j hj=>by
  rcases hj with(h1|h1)|h1
  ·have:=HN.os j h1;have:=HB6.size;omega
  ·have:=HN.ot j h1;have:=HB6.size;omega
  ·omega
 have HFL:Hid (fs.length≤1000000):=by show _≤_;rw[←ents_len,HF3.1];exact Nat.le_trans HL5.out d_
 have HEN:=h_ (entries_any (fun j=>Un S T j∨j= w4.heap.size) fs a5 fs.length c5 w6 HU.out rfl HFL.out (fun y hy=>⟨(HF3.2.2.1 y hy).below (HC4.trans (HW6.mono HC4.size)),HMM.out y.1 (by have h1:ents fs=r5:= HF3.1;rw[←h1];exact List.mem_map_of_mem hy),(HF3.2.2.2.2.2.2.2 y hy).2⟩) (HF3.2.1.below (HC4.trans (HW6.mono HC4.size))));go_upto_region 5 with(first|(go_at_call 21;((with_reducible refine HEN.out.mono ?_);rintro en w7 ⟨a6,c6,fs2,rfl,he7,hE7,hb7⟩;have HQ7:Hid (ents fs2=r5):=he7.trans HF3.1;have HE7:=h_ hE7;have HB7:=h_ (HB6.trans (hb7.mono HB6.size));have HX7:=h_ (HX6.next hb7);clear he7 hE7 hb7))|((with_reducible refine at_store 3 (.tmp 52) (.tmp 48) ?_);refine wpList_field_bex rfl (.tmp 52) (.tmp 48) rfl size1_nd.1 w4.heap.size 4 _ (.int .i64 r1) rfl rfl rfl rfl HX7.out (show 4<14 by decide) ?_;intro w8 hx8 hw8;have HX8:=h_ hx8;have HB8:=h_ (HB7.trans (hw8.below _ hMw));have HE8:=h_ (HE7.step (U':=fun j=>Un S T j∨j= w4.heap.size) (Keep.wrote (T:=fun j=>j= w4.heap.size) hw8 rfl) (fun _ h1=> .inr h1) (fun _ _ h1=>h1));clear hx8 hw8)|((with_reducible refine at_store 3 (.tmp 53) (.tmp 49) ?_);refine wpList_field_bex rfl (.tmp 53) (.tmp 49) rfl size1_nd.1 w4.heap.size 5 _ (.int .i64 r2) rfl rfl rfl rfl HX8.out (show 5<14 by decide) ?_;intro w9 hx9 hw9;have HX9:=h_ hx9;have HB9:=h_ (HB8.trans (hw9.below _ hMw));have HE9:=h_ (HE8.step (U':=fun j=>Un S T j∨j= w4.heap.size) (Keep.wrote (T:=fun j=>j= w4.heap.size) hw9 rfl) (fun _ h1=> .inr h1) (fun _ _ h1=>h1));clear hx9 hw9)|((with_reducible refine at_store 31 (.tmp 54) (.tmp 51) ?_);refine wpList_field_bex rfl (.tmp 54) (.tmp 51) rfl size1_nd.2.2.2.2.1 w4.heap.size 8 _ (.slice a6 fs2.length c6) rfl rfl rfl rfl HX9.out (show 8<14 by decide) ?_;intro w10 hx10 hw10;have HX10:Hid (Bex w10 w4.heap.size (cellsMs (⟨{Raf.emptyM with kind:=3,src:=x.n.self,dst:=k,term:=x.n.hT,index:=r1,last:=r2,commit:=x.n.com,entries:=r5},fs2,a6,c6⟩:Ms))):=hx10;have HB10:=h_ (HB9.trans (hw10.below _ hMw));have HE10:=h_ (HE9.step (U':=fun j=>Un S T j∨j= w4.heap.size) (Keep.wrote (T:=fun j=>j= w4.heap.size) hw10 rfl) (fun _ h1=> .inr h1) (fun _ _ h1=>h1));have hM10:=HX10.lt;clear hx10 hw10));refine wrq (fun l w'=>(w'.cell? ⟨w4.heap.size,0,none⟩=some (.int .i8 3)∧w'.cell? ⟨w4.heap.size,1,none⟩=some (.int .i64 x.n.self)∧w'.cell? ⟨w4.heap.size,2,none⟩=some (.int .i64 k)∧w'.cell? ⟨w4.heap.size,3,none⟩=some (.int .i64 x.n.hT)∧w'.cell? ⟨w4.heap.size,4,none⟩=some (.int .i64 r1)∧w'.cell? ⟨w4.heap.size,5,none⟩=some (.int .i64 r2)∧w'.cell? ⟨w4.heap.size,6,none⟩=some (.int .i64 x.n.com)∧w'.cell? ⟨w4.heap.size,7,none⟩=some (.bool false)∧w'.cell? ⟨w4.heap.size,8,none⟩=some (.slice a6 fs2.length c6)∧w'.cell? ⟨w4.heap.size,9,none⟩=some (.int .i64 0)∧w'.cell? ⟨w4.heap.size,10,none⟩=some (.int .i64 0)∧w'.cell? ⟨w4.heap.size,11,none⟩=some (.int .u8 0)∧w'.cell? ⟨w4.heap.size,12,none⟩=some (.slice none 0 0)∧w'.cell? ⟨w4.heap.size,13,none⟩=some (.slice none 0 0))∧Till 14 l (w'.cell? ⟨g,4,none⟩=some (.slice e.sa e.sl.length e.sc))) ?_;obtain⟨w11,hwd⟩:∃y,y=World.drew w10:=⟨_,rfl⟩;rw[←hwd];have hb:Below w10.heap.size w10 w11:=by rw[hwd];exact b_.drew
 clear hwd;have HB11:=h_ (HB10.trans (hb.mono HB10.size));have HX11:=h_ (HX10.next hb);have HE11:=h_ (HE10.below hb);have hz11:=hb.size;clear hb;refine toS ⟨⟨HX11.box.cell (j:=0) rfl,HX11.box.cell (j:=1) rfl,HX11.box.cell (j:=2) rfl,HX11.box.cell (j:=3) rfl,HX11.box.cell (j:=4) rfl,HX11.box.cell (j:=5) rfl,HX11.box.cell (j:=6) rfl,HX11.box.cell (j:=7) rfl,HX11.box.cell (j:=8) rfl,HX11.box.cell (j:=9) rfl,HX11.box.cell (j:=10) rfl,HX11.box.cell (j:=11) rfl,HX11.box.cell (j:=12) rfl,HX11.box.cell (j:=13) rfl⟩,fun _=>(HN.next HB11.out).bex.box.cell (j:=4) rfl⟩ ?_;refine ttq [] 0 ?_;refine ttq [] 1 ?_;refine ttq [] 2 ?_;refine ttq [] 3 ?_;refine ttq [] 4 ?_;refine ttq [] 5 ?_;refine ttq [14] 6 ?_;refine ttq [14] 7 ?_;refine soq 8 (fun K hK=> ?_);go_simp;refine new_block ?_;intro wb hxb hbb hsb;have HB12:=h_ (HB11.trans (hbb.mono HB11.size));have HD12:=h_ hbb;have HX12:=h_ hxb;have hz12:=hsb;clear hxb hbb hsb;refine hK.out _ _ ⟨⟨(HX11.next HD12.out).box.cell (j:=0) rfl,(HX11.next HD12.out).box.cell (j:=1) rfl,(HX11.next HD12.out).box.cell (j:=2) rfl,(HX11.next HD12.out).box.cell (j:=3) rfl,(HX11.next HD12.out).box.cell (j:=4) rfl,(HX11.next HD12.out).box.cell (j:=5) rfl,(HX11.next HD12.out).box.cell (j:=6) rfl,(HX11.next HD12.out).box.cell (j:=7) rfl,(HX11.next HD12.out).box.cell (j:=8) rfl,(HX11.next HD12.out).box.cell (j:=9) rfl,(HX11.next HD12.out).box.cell (j:=10) rfl,(HX11.next HD12.out).box.cell (j:=11) rfl,(HX11.next HD12.out).box.cell (j:=12) rfl,(HX11.next HD12.out).box.cell (j:=13) rfl⟩,fun _=>(HN.next HB12.out).bex.box.cell (j:=4) rfl⟩ ?_;clear hK K;refine soq 9 (fun K hK=> ?_);rw[if_pos (by rfl)];refine op_ownO el_msg (.tmp 61) (.tmp 63) rfl e.sa e.sl.length e.sc (e.sl.flatMap cellsMs) rfl ((HE.next HB12.out).own) (some ⟨w11.heap.size,0,none⟩) 1 1 (cellsMs (⟨{Raf.emptyM with kind:=3,src:=x.n.self,dst:=k,term:=x.n.hT,index:=r1,last:=r2,commit:=x.n.com,entries:=r5},fs2,a6,c6⟩:Ms)) rfl rfl (Row.of_bex HX12.out) (layMs.one (⟨{Raf.emptyM with kind:=3,src:=x.n.self,dst:=k,term:=x.n.hT,index:=r1,last:=r2,commit:=x.n.com,entries:=r5},fs2,a6,c6⟩:Ms)) o_ ?_;intro sa sc w13 ho3 hg3 hn3;have HO3:=h_ ho3;have HG3:=h_ hg3;have HM3:=h_ hn3;have hs12:=HB12.size;have HX3:=h_ ((HN.next HB12.out).bex.block (hg3.block g o_ (fun e2=>(HE.in_ g e2.symm).2 rfl)));have HY3:=h_ ((HX11.next HD12.out).block (hg3.block w4.heap.size o_ (fun e2=>by have:=HE.own.lt _ e2.symm;omega)));clear ho3 hg3 hn3;refine hK.out _ _ ⟨⟨HY3.box.cell (j:=0) rfl,HY3.box.cell (j:=1) rfl,HY3.box.cell (j:=2) rfl,HY3.box.cell (j:=3) rfl,HY3.box.cell (j:=4) rfl,HY3.box.cell (j:=5) rfl,HY3.box.cell (j:=6) rfl,HY3.box.cell (j:=7) rfl,HY3.box.cell (j:=8) rfl,HY3.box.cell (j:=9) rfl,HY3.box.cell (j:=10) rfl,HY3.box.cell (j:=11) rfl,HY3.box.cell (j:=12) rfl,HY3.box.cell (j:=13) rfl⟩,fun _=>HX3.box.cell (j:=4) rfl⟩ ?_;clear hK K;refine ttq [] 10 ?_;refine ttq [] 11 ?_;refine ttq [] 12 ?_;refine ttq [] 13 ?_;refine soq 14 (fun K hK=> ?_);rw[if_pos (by rfl)];refine op_field_bex (.tmp 68) (.tmp 64) rfl size1_nd.2.2.2.1 g 4 _ (.slice sa (e.sl.length+1) sc) rfl rfl rfl rfl HX3.out (show 4<30 by decide) ?_;intro w14 hx4 hw4;have HX4:=h_ hx4;have HW4:=h_ hw4;have HY4:=h_ (HY3.wrote hw4 o_);clear hx4 hw4;refine hK.out _ _ ⟨⟨HY4.box.cell (j:=0) rfl,HY4.box.cell (j:=1) rfl,HY4.box.cell (j:=2) rfl,HY4.box.cell (j:=3) rfl,HY4.box.cell (j:=4) rfl,HY4.box.cell (j:=5) rfl,HY4.box.cell (j:=6) rfl,HY4.box.cell (j:=7) rfl,HY4.box.cell (j:=8) rfl,HY4.box.cell (j:=9) rfl,HY4.box.cell (j:=10) rfl,HY4.box.cell (j:=11) rfl,HY4.box.cell (j:=12) rfl,HY4.box.cell (j:=13) rfl⟩,fun h=>absurd h d_⟩ ?_;clear hK K;refine sdq ?_;go_end0;rw[HQ.out];exact sent_in (m:=(⟨{Raf.emptyM with kind:=3,src:=x.n.self,dst:=k,term:=x.n.hT,index:=r1,last:=r2,commit:=x.n.com,entries:=r5},fs2,a6,c6⟩:Ms)) HN.out HE.out HB11.out ⟨HE11.mono (fun _ h1=> .inl h1),HQ7.out⟩ HD12.out HO3.out HG3.out HM3.out HW4.out HX4.out
def tz8(n:Nat):Nat:= if n%2= 1 then 0 else if n/2% 2=1 then 1 else if n/4% 2=1 then 2 else if n/8% 2=1 then 3 else if n/16% 2=1 then 4 else if n/32% 2=1 then 5 else if n/64% 2=1 then 6 else if n/128% 2=1 then 7 else 8
theorem tq26 {P:Prop}(h:P:=by
 go_wp2_with fail;go_ret;refine⟨ret_int ?_,rfl⟩;rw[←getElem!_pos];clear h2 h3;revert h1;generalize s.toNat=n;revert n
 decide+kernel):P:=h
theorem tz_any(s:UInt8)(w:World):Calls Tryz.prog 55 #[B s] w (fun e w'=>e= .returned (.int .i64 (tz8 s.toNat))∧w= w'):=by
 have h1:=s.toNat_lt;have h2:(0:Int)≤(s.toNat:Int):=o_;have h3:(s.toNat:Int)<256:= o_;go_enter Tryz.func55,Tryz.ntmps55;exact tq26
theorem ones_any(s:UInt8)(w:World):Calls Tryz.prog 75 #[B s] w (fun e w'=>e= .returned (.int .i64 (Raf.pop8 s.toNat))∧w= w'):=by
 have h1:=s.toNat_lt;have h2:(0:Int)≤(s.toNat:Int):=o_;have h3:(s.toNat:Int)<256:= o_;go_enter Tryz.func75,Tryz.ntmps75;exact tq26
def bitsL(n:Nat):List Nat:=(List.range 7).filter (fun j=>decide (n/2^ j%2= 1))
theorem bits_zero:bitsL 0=[]:=d_
theorem bits_next:∀n: Fin 256,n.val≠0→ bitsL n.val=(if tz8 n.val<7 then[tz8 n.val]else[])++bitsL (n.val &&& (n.val-1))∧n.val &&& (n.val-1)<n.val:= by decide+kernel
theorem bits_but:∀(n:Fin 256) (q:Fin 7),(List.range 7).filter (fun j=>inSet n.val (j+1)&& !decide (j=q.val))=bitsL (n.val &&& (255-2^ q.val)):=by decide+kernel
theorem shl_val{q:Nat}(h:q< 7):IntKind.u8.wrap ((2:Int)^q)=((2^q: Nat):Int):=by
 obtain rfl|rfl| rfl|rfl| rfl|rfl| rfl:q= 0∨q= 1∨q= 2∨q= 3∨q= 4∨q= 5∨q= 6:=o_
 all_goals decide
theorem prog_in{n:Raf.RN}{D:Nat}(hg:Gd n D)(k:Int):InI (Raf.progF n k).next:=by
 have h1:=hg.len;unfold Raf.progF
 split
 ·unfold prgOf
  split
  ·rename_i h2
   exact hg.pb _ (List.mem_of_find?_eq_some h2)
  ·unfold InI;simp
 ·unfold InI;simp only;omega
theorem others_eq{n:Raf.RN}{q:Nat}(hq:q< 7)(hs:n.self= ((q+1: Nat):Int)):Raf.others n=(bitsL ((Raf.latS n.base n.es).1.toNat &&& (255-2^ q))).map (fun j=>((j+1: Nat):Int)):=by
 have h:=bits_but ⟨(Raf.latS n.base n.es).1.toNat,(Raf.latS n.base n.es).1.toNat_lt⟩ ⟨q,hq⟩;simp only at h;unfold Raf.others Raf.RN.set;rw[←h]
 congr 1
 refine List.filter_congr fun j hj=> ?_
 rw[hs]
 congr 1
 by_cases e1:j= q
 ·subst e1;simp
 ·have:((j:Int)+1)≠(q:Int)+1:= o_;simp[e1,this]
theorem andnot_val:∀(n:Fin 256) (q:Fin 7),bits .andNot .u8 (n.val:Int) ((2^q.val: Nat):Int)=((n.val &&& (255-2^ q.val):Nat):Int):=by decide+kernel
theorem bitsL_len(n:Nat):(bitsL n).length≤7:= by unfold bitsL;exact Nat.le_trans (List.length_filter_le _ _) (by simp)
theorem tz_le(n:Nat):tz8 n≤8:= by unfold tz8;(repeat' split)<;>omega
theorem all_nd{S T:Nat→ Prop}{w:World}{g:Nat}{x:Nd}{e:Ef}{D:Nat}(h:NdAt S T w g x e)(he:EfAt S T w g e)(hg:Gd x.n D)(hl:e.sl.length≤ 900000):
 Calls Tryz.prog 28 #[.pointer (some ⟨g,0,none⟩)] w (RetIn S T w g x e (Raf.allF x.n)):=by
 obtain⟨q,hq7,hq⟩:∃q: Nat,q<7∧ x.n.self=((q+1: Nat):Int):=⟨(x.n.self-1).toNat,by have:=hg.self1;have:=hg.self7;omega,by have:=hg.self1;omega⟩;have hA:Raf.allF x.n=(bitsL ((Raf.latS x.n.base x.n.es).1.toNat &&& (255-2^ q))).map (fun j=>Raf.sendF x.n ((j+1: Nat):Int)):=by
  unfold Raf.allF;rw[others_eq hq7 hq,List.map_map];rfl
 have HA:=h_ hA;have hAN:=andnot_val ⟨(Raf.latS x.n.base x.n.es).1.toNat,(Raf.latS x.n.base x.n.es).1.toNat_lt⟩ ⟨q,hq7⟩;simp only at hAN;have HS:=h_ (fun w' (hb:Below w.heap.size w w')=>set_nd (h.next hb) hg.ok);have HN:=h_ h;have HE:=h_ he;have HG:=h_ hg;have HSEND:=h_ (fun(T':Nat→ Prop) (w':World) (e':Ef) (h1:NdAt S T' w' g x e') (h2:EfAt S T' w' g e') (k:Int) (h3:e'.sl.length≤ 1000000)=>send_nd h1 h2 hg k h3 (prog_in hg k));generalize Raf.allF x.n=av at HA ⊢;obtain⟨pw,hpw⟩:∃pw,2^q= pw:=⟨_,rfl⟩;rw[hpw]at hAN HA;generalize Raf.latS x.n.base x.n.es=lt at hAN HA HS;obtain⟨ls,li⟩:=lt;simp only at hAN HA HS
 obtain⟨v0,hv0⟩:∃v0: UInt8,v0.toNat=ls.toNat &&& (255-pw):=⟨UInt8.ofNat (ls.toNat &&& (255-pw)),by
  have:ls.toNat &&& (255-pw)≤ls.toNat:= Nat.and_le_left;have:=ls.toNat_lt
  rw[UInt8.toNat_ofNat'];exact Nat.mod_eq_of_lt o_⟩
 rw[←hv0]at hAN HA;have e4:IntKind.u8.wrap ((2:Int)^q)=(pw:Int):=by rw[shl_val hq7,hpw]
 have e1:IntKind.i64.wrap (x.n.self-1)=(q:Int):=by rw[hq];rw[IntWalk.i64_in _ o_];omega
 have e2:IntKind.u64.wrap (q:Int)=(q:Int):=by simp[IntKind.wrap,IntKind.bits,IntKind.signed];omega
 have e3:¬((q:Int)<0):=o_;have hgl:=h.lt;clear h he hg hA hv0 hpw hq;go_enter Tryz.func28,Tryz.ntmps28;go_wp2_with fail;refine wrq (fun l w'=>(w'.cell? ⟨g,6,none⟩=some (.int .i64 x.n.self))) ?_;obtain⟨w1,hwd⟩:∃y,y=World.drew w:=⟨_,rfl⟩;rw[←hwd];have hb:Below w.heap.size w w1:=by rw[hwd];exact b_.drew
 clear hwd;have HB1:=h_ hb;clear hb;refine toS ((HN.next HB1.out).bex.box.cell (j:=6) rfl) ?_;refine tkq 0 ?_;refine tkq 2 ?_;refine tkq 3 ?_;refine tkq 4 ?_;refine tkq 5 ?_;refine tkq 6 ?_;refine tkq 7 ?_;refine tkq 8 ?_;refine tkq 9 ?_;refine soq 1 (fun K hK=> ?_);go_simp;go_at_call 54
 with_reducible refine(HS.out _ HB1.out).mono ?_
 rintro en w2 ⟨rfl,hb2⟩;have HB2:=h_ (HB1.trans (hb2.mono HB1.size));clear hb2;refine hK.out _ _ ((HN.next HB2.out).bex.box.cell (j:=6) rfl) ?_;clear hK K;refine tkq 10 ?_;refine tkq 11 ?_;refine sdq ?_;clear e1 e2 e3 e4 hAN;go_wp2_with fail;go_loopw [2] (fun sv wr=>∃(v:UInt8) (ms:List WMsg) (T':Nat→ Prop) (sl:List Ms) (sa:Option Addr) (sc:Nat),sv=B v∧Hid (Stp T w T' wr)∧Hid (NdAt S T' wr g x {e with sl:=sl,sa:=sa,sc:=sc})∧Hid (EfAt S T' wr g {e with sl:=sl,sa:=sa,sc:=sc})∧Hid (sl.map Ms.m=e.sl.map Ms.m++ms)∧Hid (ms++(bitsL v.toNat).map (fun j=>Raf.sendF x.n ((j+1: Nat):Int))=av)) (fun sv _=>(intOf sv).toNat)
 case atStart=>exact ⟨v0,[],T,e.sl,e.sa,e.sc,rfl,.below HB2.out,HN.next HB2.out,HE.next HB2.out,(by show _=_;simp),HA.symm⟩
 case round=>
  obtain⟨v,ms,T',sl,sa,sc,rfl,HST,HND,HEF,HML,HMS⟩:=hrel;have hv:=v.toNat_lt;have HTZ:=h_ (fun w'=>tz_any v w');by_cases h0:v.toNat= 0
  ·rw[h0,bits_zero,List.map_nil,List.append_nil]at HMS;have hd:((v.toNat:Int) !=0)=false:= by rw[h0];rfl
   clear h0;go_wp2_with fail;go_end0;exact⟨rfl,T',sl,sa,sc,HST.out,HND.out,HEF.out,by rw[HML.out,HMS.out]⟩
  ·obtain⟨hb1,hb2⟩:=bits_next ⟨v.toNat,hv⟩ h0;simp only at hb1 hb2;have hd:((v.toNat:Int) !=0)=true:= by simpa using h0
   have hj8:=tz_le v.toNat;obtain⟨v1,hv1⟩:∃v1: UInt8,v1.toNat=v.toNat &&& (v.toNat-1):=⟨UInt8.ofNat (v.toNat &&& (v.toNat-1)),by rw[UInt8.toNat_ofNat'];exact Nat.mod_eq_of_lt o_⟩;rw[←hv1]at hb1 hb2;have e2:bits .and .u8 (v.toNat:Int) ((v.toNat:Int)-1)=(v1.toNat:Int):=by
    rw[hv1,show(v.toNat:Int)-1= ((v.toNat-1: Nat):Int) by omega];exact u8_and_nat _ _ o_ o_
   have i1:(1:Int)≤(v.toNat:Int):=o_;have i2:(v.toNat:Int)<256:= o_;have HMS2:=h_ hb1;generalize tz8 v.toNat=j at HTZ HMS2 hj8;have hlen:sl.length≤ 900007:=by
    have h1:=congrArg List.length HML.out;have h2:=congrArg List.length HMS.out;have h3:=congrArg List.length HA.out;have h4:=bitsL_len v0.toNat;simp only[List.length_map,List.length_append]at h1 h2 h3;omega
   clear hb1 h0 hv1;by_cases hj7:j< 7
   ·have HMS3:Hid (bitsL v.toNat=j:: bitsL v1.toNat):=by have:=HMS2.out;rw[if_pos hj7]at this;exact this
    have hle:((j:Int)+1≤ 7):=o_;have HSD:=h_ (HSEND T' _ _ HND.out HEF.out ((j:Int)+1) (by show sl.length≤_;omega));clear HMS2;go_wp2_with(first|(go_at_call 55;((with_reducible refine(HTZ.out _).mono ?_);rintro en w3 ⟨rfl,rfl⟩))|(go_at_call 56;((with_reducible refine HSD.out.mono ?_);rintro en w3 ⟨rfl,T2,sl2,sa2,sc2,hst,hnd,hef,hml⟩;have HST2:=h_ (HST.trans hst);have HND2:=h_ hnd;have HEF2:=h_ hef;have HML2:=h_ hml;clear hst hnd hef hml)));go_roundw
    case rel=>exact ⟨v1,ms++[Raf.sendF x.n ((j:Int)+1)],T2,sl2,sa2,sc2,rfl,HST2.out,HND2.out,HEF2.out,(by show _=_;rw[HML2.out,HML.out,List.append_assoc]),(by show _=_;have:=HMS.out;rw[HMS3.out,List.map_cons]at this;rw[List.append_assoc];exact this)⟩
    case measure=>simp [intOf];omega
   ·have HMS3:Hid (bitsL v.toNat=bitsL v1.toNat):=by have:=HMS2.out;rw[if_neg hj7]at this;exact this
    have hle:¬((j:Int)+1≤ 7):=o_;clear HMS2;go_wp2_with(first|(go_at_call 55;((with_reducible refine(HTZ.out _).mono ?_);rintro en w3 ⟨rfl,rfl⟩)));go_roundw
    case rel=>exact ⟨v1,ms,T',sl,sa,sc,rfl,HST.out,HND.out,HEF.out,HML.out,(by show _=_;rw[←HMS3.out];exact HMS.out)⟩
    case measure=>simp [intOf];omega
end Go.Proofs.YtoeofkcpclfnhaaGreat
