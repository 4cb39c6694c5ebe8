import Derived.Test.YtoeofkcpclfnhaaGreatSr31
set_option linter.unusedVariables false
set_option linter.unusedSimpArgs false
namespace Go.Proofs.YtoeofkcpclfnhaaGreat
open Go.ChangeShapes Go.WideShapes Go.ChangeAt Go.RowKit
set_option maxRecDepth 100000
set_option maxHeartbeats 16000000
theorem new_wk(w:World)(gd:Nat)(hx:Bex w gd [.int .i64 5,.int .i64 7]):Calls Tryz.prog 5 #[.agg #[.int .i64 1,Go.Proofs.YtoeofkcpclfnhaaGreat.B 7,.int .i64 1000,.int .i64 250,.slice (some ⟨gd,0,none⟩) 2 2],.agg #[.int .i64 0,.int .i64 0,.int .i64 0],.agg #[.int .i64 0,.int .i64 0,.slice none 0 0],.agg #[.int .i64 0,.int .i64 0,.int .u8 0,.slice none 0 0],.int .i64 0] w (RetNw (fun _=>False) w wkA):=by
 have h:=new_nd (fun _=>False) (w:=w) (D:=20) 1 7 1000 250 [5,7] (some ⟨gd,0,none⟩) 2 0 0 0 [] none 0 0 (fun _ h5=>h5.elim) ⟨by decide,by decide,by decide,by decide,by decide,by decide,by decide,by decide,by decide,by decide,by decide,by decide,by decide,by decide,by decide,by decide,by decide,fun q hq=>by (cases hq),by decide⟩ d_ d_ d_ (Row.of_bex hx) d_ (fun h5=>by cases h5) (.zero _ _) d_ d_;rw[wk_a]at h;exact h
theorem new_wko(w:World)(S:Nat→ Prop)(hS:Old S w):Calls Tryz.prog 5 #[.agg #[.int .i64 1,.int .u8 1,.int .i64 1000,.int .i64 250,.slice none 0 0],.agg #[.int .i64 0,.int .i64 0,.int .i64 0],.agg #[.int .i64 0,.int .i64 0,.slice none 0 0],.agg #[.int .i64 0,.int .i64 0,.int .u8 0,.slice none 0 0],.int .i64 0] w (RetNw S w wkO):=by
 have h:=new_nd S (w:=w) (D:=20) 1 1 1000 250 [] none 0 0 0 0 [] none 0 0 hS ⟨by decide,by decide,by decide,by decide,by decide,by decide,by decide,by decide,by decide,by decide,by decide,by decide,by decide,by decide,by decide,by decide,by decide,fun q hq=>by (cases hq),by decide⟩ d_ d_ d_ (.inl rfl) d_ (fun _=>rfl) (.zero _ _) d_ d_;rw[wk_o]at h;exact h
section
variable {w0 w:World} {T:Nat→ Prop} {g ga:Nat} {m:Raf.RN} {bs:List (Nat×List Value)}
theorem tick_a(h:Wk w0 w T g ga wkA m bs):Calls Tryz.prog 9 #[.pointer (some ⟨g,0,none⟩),.int .i64 1004] w (RetWk w0 g ga wkA m bs (fun _=>True) []):=by
 obtain⟨x,y,e,ey,h1,h2,h3,h4⟩:=h.ex;refine(tick_ndX h3 (by rw[h1];exact wk_ga) 1004 d_ d_ d_ d_ (by rw[h1];decide) (by rw[h1];decide) (by rw[h1,wk_b.1];decide) (by rw[h1,wk_b.1];decide)).mono (fun en w' hr=> ?_);rw[h1,wk_b.1]at hr;obtain⟨T',r,a,b,-,c,d⟩:=h.ret hr wk_b.2;exact⟨T',r,a,b,trivial,c,d⟩
theorem tick_b(h:Wk w0 w T g ga wkA m bs):Calls Tryz.prog 9 #[.pointer (some ⟨g,0,none⟩),.int .i64 1005] w (RetWk w0 g ga wkC m bs (fun r=>r.hd= true) (tickG wkA 1005).2):=by
 obtain⟨x,y,e,ey,h1,h2,h3,h4⟩:=h.ex;refine(tick_ndX h3 (by rw[h1];exact wk_ga) 1005 d_ d_ d_ d_ (by rw[h1];decide) (by rw[h1];decide) (by rw[h1,wk_c.1];decide) (by rw[h1,wk_c.1];decide)).mono (fun en w' hr=> ?_);rw[h1,wk_c.1]at hr;obtain⟨T',r,a,b,hψ,c,d⟩:=h.ret hr wk_c.2.1;exact⟨T',r,a,b,by show r.hd=true;rw[hψ.2];decide,c,d⟩
theorem hear_c(h:Wk w0 w T g ga wkC m bs):Calls Tryz.prog 10 #[.pointer (some ⟨g,0,none⟩),.agg #[.int .i8 2,.int .i64 2,.int .i64 1,.int .i64 1,.int .i64 0,.int .i64 0,.int .i64 0,.bool true,.slice none 0 0,.int .i64 0,.int .i64 0,.int .u8 0,.slice none 0 0,.slice none 0 0],.int .i64 1100] w (RetWk w0 g ga (Raf.endF (hearG wkC wkM 1100).1) m bs (fun r=>r.al.length= 1) (hearG wkC wkM 1100).2):=by
 obtain⟨x,y,e,ey,h1,h2,h3,h4⟩:=h.ex;have hc:=hear_wk h3 (by rw[h1];exact wk_gc) ⟨wkM,[],none,0⟩ ⟨.zero _ _,rfl⟩ 1100 d_ d_ d_ d_ (by rw[h1];decide) d_ rfl d_ d_ (by rw[h1];decide) (by rw[h1];decide) d_ d_ (by rw[h1];exact⟨wk_y.1,wk_y.2.1,rfl⟩) (by rw[h1];exact wk_y.2.2) (by rw[h1];exact wk_d.2.2.1) (by rw[h1,wk_d.2.2.2.1];decide) (by rw[h1,wk_d.2.2.2.2.1];decide);refine hc.mono (fun en w' hr=> ?_);rw[h1]at hr;obtain⟨T',r,a,b,hψ,c,d⟩:=h.ret hr rfl;exact⟨T',r,a,b,hψ.1,c,d⟩
end
theorem tick_o{w0 w:World}{T:Nat→ Prop}{g ga:Nat}{n:Raf.RN}{bs:List (Nat×List Value)}(h:Wk w0 w T g ga n wkO bs)(rows:List (Option Addr×List Value))(hrow:∀r∈ rows,Row w r.1 r.2∧∀k,blkOf r.1=some k→k≠ ga∧k< w.heap.size):Calls Tryz.prog 9 #[.pointer (some ⟨ga,0,none⟩),.int .i64 1000] w (RetWo w0 g ga n (Raf.endF (tickG wkO 1000).1) bs rows):=by
 obtain⟨x,y,e,ey,h1,h2,h3,h4⟩:=h.ex;refine(tick_nd h4 (by rw[h2];exact wk_go) 1000 d_ d_ d_ d_ (by rw[h2];decide) (by rw[h2];decide) (by rw[h2];exact wk_p.2.2.1) (by rw[h2,wk_p.2.2.2];decide)).mono (fun en w' hr=> ?_);rw[h2]at hr;exact h.other h1 h3 h4 hrow hr rfl
theorem hard_wk{S T:Nat→ Prop}{w:World}{g:Nat}{x:Nd}{e:Ef}(h:NdAt S T w g x e)(ht:x.n.hT= 1):Calls Tryz.prog 11 #[.pointer (some ⟨g,0,none⟩)] w (fun en w'=>∃a b,en= .returned (.agg #[.int .i64 1,.int .i64 a,.int .i64 b])∧Below w.heap.size w w'):=
 (hard_nd h).mono fun _ _ h5=>⟨_,_,by rw[←ht];exact h5.1,h5.2⟩
theorem leads_wk{S T:Nat→ Prop}{w:World}{g:Nat}{x:Nd}{e:Ef}(h:NdAt S T w g x e)(ht:x.n.role= 2):Calls Tryz.prog 12 #[.pointer (some ⟨g,0,none⟩)] w (RetBl w true):=by
 have h5:=leads_nd h;rw[decide_eq_true ht]at h5;exact h5
theorem commit_wk{S T:Nat→ Prop}{w:World}{g:Nat}{x:Nd}{e:Ef}(h:NdAt S T w g x e)(ht:x.n.com= 1):Calls Tryz.prog 13 #[.pointer (some ⟨g,0,none⟩)] w (RetN w 1):=by
 have h5:=commit_nd h;rw[ht]at h5;exact h5
theorem send_first{w:World}{a:Option Addr}{sl:List Ms}{ms:List WMsg}(h:Row w a (sl.flatMap cellsMs))(hm:sl.map Ms.m=ms){k:Int}(hk:ms.map (fun m=>m.kind)=[k,k]):sl.length= 2∧∃b o,a=some ⟨b,o,none⟩∧w.cell? ⟨b,o,none⟩=some (.int .i8 k):=by
 have h2:sl.length= 2:=by
  have h3:=congrArg List.length hk;rw[←hm]at h3;simpa using h3
 refine⟨h2,?_⟩;cases sl with
 |nil=> exact absurd h2 d_
 |cons m1 sl2=>
  rw[←hm]at hk;have hk1:m1.m.kind= k:=by
   have h3:=congrArg List.head? hk;simpa using h3
  have h6:((m1::sl2).flatMap cellsMs)[0]? =some (.int .i8 k):=by
   rw[List.flatMap_cons,←hk1];rfl
  generalize(m1::sl2).flatMap cellsMs=xs at h h6;rcases h with h|⟨b,o,h3,h4⟩
  ·rw[h]at h6;cases h6
  ·obtain⟨h7,h8⟩:=List.getElem?_eq_some_iff.1 h6;exact⟨b,o,h3,(h4 0 h7).trans (congrArg some h8)⟩
abbrev ezL:List Value:=[.bool false,.int .i64 0,.slice none 0 0,.bool false,.slice none 0 0,.int .i64 0]
theorem bex_ef{w:World}{q n k:Nat}{r:Ef}(h:Bex w q (cellsEf r))(hn:r.sl.length= n)(hk:r.al.length= k):w.cell? ⟨q,4,none⟩=some (.slice r.sa n r.sc)∧w.cell? ⟨q,0,none⟩=some (.bool r.hd)∧w.cell? ⟨q,2,none⟩=some (.slice r.aa k r.ac):=by
 subst hn hk;exact⟨h.box.cell (j:=4) rfl,h.box.cell (j:=0) rfl,h.box.cell (j:=2) rfl⟩
theorem cell_row{w w':World}{b o:Nat}{v:Value}(h:w.cell? ⟨b,o,none⟩=some v)(hb:Below w.heap.size w w')(hl:b< w.heap.size):w'.cell? ⟨b,o,none⟩=some v:=by
 rw[←h];simp only[World.cell?,hb.block b hl]
theorem row_next{w w':World}{a:Option Addr}{xs:List Value}(h:Row w a xs)(hb:Below w.heap.size w w')(hl:∀k,blkOf a=some k→k< w.heap.size):Row w' a xs:=by
 rcases h with h|⟨b,o,h1,h2⟩
 ·exact .inl h
 ·exact .inr ⟨b,o,h1,fun i hi=>cell_row (h2 i hi) hb (hl b (by rw[h1];rfl))⟩
theorem cell_lt{w:World}{b o:Nat}{v:Value}(h:w.cell? ⟨b,o,none⟩=some v):b< w.heap.size:=by
 by_cases h1:b< w.heap.size
 ·exact h1
 ·simp[World.cell?,Array.getElem?_eq_none (Nat.le_of_not_lt h1)]at h
theorem field_hd(a b c:Value)(w:World):(Instr.field 29 (.agg #[a,b,c]) 0).run Tryz.prog w= .ok a w:=k_
theorem wakes_nd(w:World):Calls Tryz.prog 4 #[] w (RetBl w true):=by
 go_enter Tryz.func4,Tryz.ntmps4;go_upto_region 2 with(first|(go_at_call 6;((with_reducible refine(setup_any 1 w).mono ?_);rintro en w1 ⟨gd,rfl,hgd,hxd,hb⟩;have HB1:=h_ hb;have HN1:=h_ (new_wk w1 gd hxd);clear hgd hxd hb))|(go_at_call 5;((with_reducible refine HN1.out.mono ?_);rintro en w2 ⟨g,x,e,rfl,hg,hx,hnd,hb⟩;have HN2:=h_ hnd;have HX2:=h_ hx;have HB2:=h_ (HB1.trans (hb.mono HB1.size));have HG2:Hid (w.heap.size≤g):=Nat.le_trans HB1.size hg;have HO2:=h_ (new_wko w2 (fun k=>k= g) (fun k h5=>by rw[h5];exact hnd.lt));clear hg hx hnd hb)));clear HN1 HB1;go_upto_region 3 with(go_at_call 5;((with_reducible refine HO2.out.mono ?_);rintro en w3 ⟨ga,y,ey,rfl,hga,hy,hnd,hb⟩;have HW3:=h_ (wk_made HB2.out HG2.out HX2.out HN2.out hb hga hy hnd);have HT3:=h_ (tick_a HW3.out);clear hga hy hnd hb));clear HN2 HX2 HB2 HG2 HO2;go_upto_region 5 with fail;go_upto_region 6 with(first|(go_at_call 9;((with_reducible refine HT3.out.mono ?_);rintro en w4 ⟨T4,ra,rfl,hw,-,hm,-,-⟩;have HW4:=h_ hw;have HA4:Hid (ra.sl.length=0):=(List.length_map Ms.m).symm.trans (congrArg List.length hm);clear hw hm))|((with_reducible refine at_store 54 (.tmp 5) (.tmp 39) ?_);refine wpList_store_bex layEf rfl (.tmp 5) (.tmp 39) rfl w4.heap.size ra _ rfl rfl (Bex.new w4 ezL 54) rfl ?_;intro w5 hx hw;have HW5:=h_ (HW4.var ((mid_alloc' b_).trans (hw.below _ n_)) hx);have HT5:=h_ (tick_b HW5.out);clear hx hw));obtain⟨qa,hqa⟩:∃q,q=w4.heap.size:= ⟨_,rfl⟩;rw[←hqa]at HW5 HT5 ⊢;clear hqa HW4 HT3 HW3;go_upto_region 7 with(first|(go_at_call 9;((with_reducible refine HT5.out.mono ?_);rintro en w6 ⟨T6,rb,rfl,hw,hψ,hm,-,-⟩;have HW6:=h_ hw;have HB6:Hid (rb.sl.length=2∧ rb.hd=true):=And.intro (((List.length_map Ms.m).symm.trans (congrArg List.length hm)).trans wk_c.2.2) hψ;clear hw hm hψ))|((with_reducible refine at_store 54 (.tmp 6) (.tmp 41) ?_);refine wpList_store_bex layEf rfl (.tmp 6) (.tmp 41) rfl w6.heap.size rb _ rfl rfl (Bex.new w6 ezL 54) rfl ?_;intro w7 hx hw;have HW7:=h_ (HW6.var ((mid_alloc' b_).trans (hw.below _ n_)) hx);have HT7:=h_ (hear_c HW7.out);clear hx hw));obtain⟨qb,hqb⟩:∃q,q=w6.heap.size:= ⟨_,rfl⟩;rw[←hqb]at HW7 HT7 ⊢;clear hqb HW6 HT5 HW5;go_upto_region 8 with(first|(go_at_call 10;((with_reducible refine HT7.out.mono ?_);rintro en w8 ⟨T8,rc,rfl,hw,hψ,hm,hrow,hk⟩;have HW8:=h_ hw;have HC8:=h_ (And.intro hψ (And.intro hrow hk));have HM8:=h_ hm;clear hw hm hψ hrow hk))|((with_reducible refine at_store 54 (.tmp 7) (.tmp 44) ?_);refine wpList_store_bex layEf rfl (.tmp 7) (.tmp 44) rfl w8.heap.size rc _ rfl rfl (Bex.new w8 ezL 54) rfl ?_;intro w9 hx hw;have HB9:Hid (Below w8.heap.size w8 w9):=(mid_alloc' b_).trans (hw.below _ n_);have HW9:=h_ (HW8.var HB9.out hx);clear hx hw));obtain⟨qc,hqc⟩:∃q,q=w8.heap.size:= ⟨_,rfl⟩;rw[←hqc]at HW9 ⊢
 have HT9:=h_ (tick_o HW9.out [(rc.sa,rc.sl.flatMap cellsMs)] (fun r h5=>by
  rw[List.mem_singleton.1 h5]
  refine⟨row_next HC8.2.1 HB9.out (fun k h6=>(HC8.2.2 k h6).2),fun k h6=>⟨(HC8.2.2 k h6).1,Nat.lt_of_lt_of_le (HC8.2.2 k h6).2 HB9.size⟩⟩))
 clear hqc HW8 HT7 HW7 HB9;go_upto_region 9 with(go_at_call 9;((with_reducible refine HT9.out.mono ?_);rintro en w10 ⟨v,rfl,hnd,hb,hbs,hrow⟩;have HND:=h_ hnd;have HB10:=h_ hb;have HBS:=h_ hbs;have HRW:=h_ hrow;clear hnd hb hbs hrow));clear HT9 HW9;obtain⟨x',y',e',ey',S,T,S2,T2,hxn,hyn,hn1,hn2⟩:=HND.out;obtain⟨hl2,b,o,hsa,hcell⟩:=send_first (HRW _ (List.mem_singleton.2 rfl)) HM8.out wk_d.2.1;have hsa:rc.sa= some ⟨b,o,none⟩:=hsa;have HF:Hid (∀w',Below w10.heap.size w10 w'→(w'.cell? ⟨qa,4,none⟩=some (.slice ra.sa 0 ra.sc)∧w'.cell? ⟨qb,4,none⟩=some (.slice rb.sa 2 rb.sc)∧w'.cell? ⟨qb,0,none⟩=some (.bool true)∧w'.cell? ⟨qc,4,none⟩=some (.slice (some ⟨b,o,none⟩) 2 rc.sc)∧w'.cell? ⟨qc,2,none⟩=some (.slice rc.aa 1 rc.ac)∧w'.cell? ⟨b,o,none⟩=some (.int .i8 3))):=fun w' hb=>by
  have h1:Bex w10 qa (cellsEf ra):=HBS.out (qa,cellsEf ra) (.tail _ (.tail _ (.head _)));have h2:Bex w10 qb (cellsEf rb):=HBS.out (qb,cellsEf rb) (.tail _ (.head _));have h3:Bex w10 qc (cellsEf rc):=HBS.out (qc,cellsEf rc) (.head _);obtain⟨a1,-,-⟩:=bex_ef (h1.next hb) HA4.out rfl;obtain⟨b1,b2,-⟩:=bex_ef (h2.next hb) HB6.1 rfl;obtain⟨c1,-,c3⟩:=bex_ef (h3.next hb) hl2 HC8.1;rw[HB6.2]at b2;rw[hsa]at c1;exact⟨a1,b1,b2,c1,c3,cell_row hcell hb (cell_lt hcell)⟩
 have HN1:=h_ hn1;have HN2:=h_ hn2;have HH:Hid (x'.n.hT=1∧ x'.n.role=2∧ y'.n.role=2∧ y'.n.com=1):=⟨by rw[hxn];exact wk_d.2.2.2.2.2,by rw[hxn];exact wk_d.1,by rw[hyn];exact wk_p.1,by rw[hyn];exact wk_p.2.1⟩;obtain⟨k1,k2,k3,k4,k5,k6⟩:=HF.out _ b_;clear hxn hyn hn1 hn2 hl2 hsa hcell HND HBS HRW HM8 HA4 HB6 HC8;have hfd:=field_hd;have HL0:=h_ (hard_wk HN1.out HH.1);go_wp2_with(first|(go_at_call 11;((with_reducible refine HL0.out.mono ?_);rintro en w11 ⟨h5,h6,rfl,hb⟩;have HB11:=h_ hb;have HL1:=h_ (leads_wk (HN1.next hb) HH.2.1);clear k1 k2 k3 k4 k5 k6;obtain⟨k1,k2,k3,k4,k5,k6⟩:=HF.out _ hb;clear hb))|(go_at_call 12;((with_reducible refine HL1.out.mono ?_);rintro en w12 ⟨rfl,hb⟩;have HB12:=h_ (HB11.trans (hb.mono HB11.size));have HL2:=h_ (leads_wk (HN2.next HB12.out) HH.2.2.1);clear k1 k2 k3 k4 k5 k6 hb;obtain⟨k1,k2,k3,k4,k5,k6⟩:=HF.out _ HB12.out))|(go_at_call 12;((with_reducible refine HL2.out.mono ?_);rintro en w13 ⟨rfl,hb⟩;have HB13:=h_ (HB12.trans (hb.mono HB12.size));have HL3:=h_ (commit_wk (HN2.next HB13.out) HH.2.2.2);clear k1 k2 k3 k4 k5 k6 hb))|(go_at_call 13;((with_reducible refine HL3.out.mono ?_);rintro en w14 ⟨rfl,hb⟩;have HB14:=h_ (HB13.trans (hb.mono HB13.size));clear hb)));go_ret;exact⟨rfl,HB10.trans (HB14.mono HB10.size)⟩
end Go.Proofs.YtoeofkcpclfnhaaGreat
namespace Go.Proofs.YtoeofkcpclfnhaaGreat
open Go.ChangeShapes Go.WideShapes Go.ChangeAt Go.RowKit
set_option maxRecDepth 100000
open Raf (RN NetOk)
set_option maxHeartbeats 16000000
theorem new_z(k:Nat)(h1:1≤ k)(h3:k≤ 3)(w:World)(gd:Nat)(S:Nat→ Prop)(hS:Old S w)(hx:Bex w gd [.int .i64 5,.int .i64 7]):Calls Tryz.prog 5 #[.agg #[.int .i64 (k:Int),Go.Proofs.YtoeofkcpclfnhaaGreat.B 7,.int .i64 1000,.int .i64 250,.slice (some ⟨gd,0,none⟩) 2 2],.agg #[.int .i64 0,.int .i64 0,.int .i64 0],.agg #[.int .i64 0,.int .i64 0,.slice none 0 0],.agg #[.int .i64 0,.int .i64 0,.int .u8 0,.slice none 0 0],.int .i64 0] w (RetNw S w (nwZ k)):=
 new_nd S (w:=w) (D:=20) (k:Int) 7 1000 250 [5,7] (some ⟨gd,0,none⟩) 2 0 0 0 [] none 0 0 hS ⟨rfl,(show(0:Int)≤0 by decide),Nat.zero_le _,by show(1:Int)≤(k:Int);omega,by show(k:Int)≤7;omega,(show(1:Int)≤1000 by decide),(show(1000:Int)≤1099511627776 by decide),(show(1:Int)≤250 by decide),(show(250:Int)≤1099511627776 by decide),(show 2≤64 by decide),(show(0:Int)≤0 by decide),(show(0:Int)≤1099511627776 by decide),(show(0:Int)≤0 by decide),(show(0:Int)≤((0:Nat):Int) by decide),(show(0:Int)≤0 by decide),(show(0:Int)≤((20:Nat):Int) by decide),Nat.zero_le _,fun q hq=>by (cases hq),by decide⟩ d_ d_ d_ (Row.of_bex hx) d_ (fun h5=>by cases h5) (.zero _ _) d_ d_
theorem match_inv{w:World}{X i j k:Nat}{N:Nt}(hp:NtP w X N)(hinv:NetInv N i)(hi:i≤ 400)(j1:1≤ j)(j3:j≤ 3)(k1:1≤ k)(k3:k≤ 3):Calls Tryz.prog 8 #[.agg #[.int .i64 0,.int .i64 0,.slice (N.ra j) (N.rs j).length (N.rc j)],.agg #[.int .i64 0,.int .i64 0,.slice (N.ra k) (N.rs k).length (N.rc k)]] w (fun en w'=>en= .returned (.bool true)∧Below w.heap.size w w'):=by
 have hj:=hp.rows j j3;have hk:=hp.rows k k3;have ej:=(hinv.kept j j1 j3).2.2.2;have ek:=(hinv.kept k k1 k3).2.2.2;have lj:(N.rs j).length≤4096:= by
  have h5:=(hinv.ok.bounds j1 j3).2.1;have h6:(N.x j).n.es.length≤i:= h5;rw[←ej,ents_len]at h6;omega
 have lk:(N.rs k).length≤4096:= by
  have h5:=(hinv.ok.bounds k1 k3).2.1;have h6:(N.x k).n.es.length≤i:= h5;rw[←ek,ents_len]at h6;omega
 refine match_nd (N.rs j) (N.rs k) (N.ra j) (N.ra k) _ _ (N.rc j) (N.rc k) w rfl rfl lj lk hj.le hk.le hj.row.1 hk.row.1 (fun y hy=>(hj.each y hy).good) (fun y hy=>(hk.each y hy).good) ?_;intro i2 h1 h2 he;have h3:=hinv.ok.rows j1 j3 k1 k3 (i:=i2);(try simp only at h3);rw[←ej,←ek]at h3;exact h3 h1 h2 he
theorem cells_rw{w:World}{X:Nat}{N:Nt}(h:Bex w X (cellsNt N)){k:Nat}(h3:k≤ 3):w.cell? ⟨X,20+k* 3,none⟩=some (.int .i64 0)∧w.cell? ⟨X,20+k* 3+1,none⟩=some (.int .i64 0)∧w.cell? ⟨X,20+k* 3+2,none⟩=some (.slice (N.ra k) (N.rs k).length (N.rc k)):=
 ⟨(h.cell' _).trans (nt_rw h3).1,(h.cell' _).trans (nt_rw h3).2.1,(h.cell' _).trans (nt_rw h3).2.2⟩
theorem cell_air{w:World}{X:Nat}{N:Nt}(h:Bex w X (cellsNt N)){L:Nat}(hL:N.air.length= L):w.cell? ⟨X,32,none⟩=some (.slice N.aa L N.ac):=by
 subst hL;exact(h.cell' 32).trans rfl
theorem nact_at{w:World}{b o:Nat}{l:List Nact}(h:LRow layNact w (some ⟨b,o,none⟩) l){k:Nat}(hk:k< l.length):w.cell? ⟨b,o+k* 4,none⟩=some (.int .i64 l[k].do_)∧w.cell? ⟨b,o+k* 4+1,none⟩=some (.int .i64 l[k].K)∧w.cell? ⟨b,o+k* 4+2,none⟩=some (.int .i64 l[k].nw)∧w.cell? ⟨b,o+k* 4+3,none⟩=some (B l[k].set):=by
 obtain⟨b',o',e,hc⟩:=LRow.range h hk;simp only[Option.some.injEq,Addr.mk.injEq]at e;obtain⟨rfl,rfl,-⟩:=e;have hc:=hc w b_;exact⟨hc 0 _ rfl,hc 1 _ rfl,hc 2 _ rfl,hc 3 _ rfl⟩
end Go.Proofs.YtoeofkcpclfnhaaGreat
