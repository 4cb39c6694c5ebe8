import Derived.Test.YtoeofkcpclfnhaaGreatSr27
set_option linter.unusedVariables false
set_option linter.unusedSimpArgs false
namespace Go.Proofs.YtoeofkcpclfnhaaGreat
open Go.ChangeShapes Go.WideShapes Go.ChangeAt Go.RowKit
set_option maxRecDepth 100000
set_option maxHeartbeats 16000000
theorem loop_meas{cn j:Nat}{v:Int}(hv:v= (j:Int)+1+ 1)(h:j+ 1≤cn):((cn:Int)+1- intOf (.int .i64 v)).toNat<((cn:Int)+1- intOf (.int .i64 ((j:Int)+1))).toNat:=by
 subst hv;simp only[intOf];omega
theorem loop_next{j:Nat}{v:Int}(hv:v= (j:Int)+1+ 1):v= ((j+1: Nat):Int)+1:= o_
def ledGap(w:World)(X tn:Nat):Nat:= match w.cell? ⟨X,33,none⟩with|some (.slice _ n _)=>tn+ 1-n| _=>0
theorem ledGap_eq{w:World}{X tn n c:Nat}{a:Option Addr}(h:w.cell? ⟨X,33,none⟩=some (.slice a n c)):ledGap w X tn=tn+ 1-n:= by unfold ledGap;rw[h]
def ledF(led:List Int)(role t k:Int):List Int:=if role=2 then(led++List.replicate (t.toNat+1- led.length) 0).set t.toNat k else led
def doneAt(d:List WEnt)(es:List WEnt)(j:Nat):List WEnt:=if j≤d.length then d else es.take j
theorem doneAt_app{d es:List WEnt}{j cn:Nat}(hj:j< es.length)(hc:j< cn)(hl:(doneAt d es j).length≤j)(hd:∀i (_:i< cn) (h2:i< es.length) (h3:i< d.length),es[i]=d[i]):doneAt d es j++[es[j]]=doneAt d es (j+1):=by
 unfold doneAt at hl ⊢;by_cases h1:j≤ d.length
 ·rw[if_pos h1]at hl ⊢;have hjd:d.length= j:=o_;rw[if_neg o_,List.take_succ_eq_append_getElem hj]
  congr 1
  refine List.ext_getElem (by rw[List.length_take];omega) (fun i h2 h3=> ?_);rw[List.getElem_take];exact(hd i o_ o_ h2).symm
 ·rw[if_neg h1,if_neg o_,List.take_succ_eq_append_getElem hj]
theorem doneAt_old{d es:List WEnt}{j:Nat}(hj:j≤ es.length)(hl:j< (doneAt d es j).length):j< d.length∧doneAt d es j=d∧ doneAt d es (j+1)=d:= by
 unfold doneAt at hl ⊢;by_cases h1:j≤ d.length
 ·rw[if_pos h1]at hl ⊢;exact⟨hl,rfl,if_pos hl⟩
 ·rw[if_neg h1,List.length_take]at hl;omega
structure AftS(N N':Nt)(k:Nat)(ms:List WMsg):Prop where
 g:N'.g= N.g
 x:N'.x= N.x
 now:N'.now= N.now
 hT:N'.hT= upd N.hT k (N.x k).n.hT
 hV:N'.hV= upd N.hV k (N.x k).n.hV
 hB:N'.hB= upd N.hB k (N.x k).n.hB
 rs:∃fs,N'.rs=upd N.rs k fs∧ents fs=(N.x k).n.es
 air:N'.air.map Ms.m=N.air.map Ms.m++ms
 led:N'.led= ledF N.led (N.x k).n.role (N.x k).n.hT k
 don:ents N'.done=doneAt (ents N.done) (N.x k).n.es (N.x k).n.com.toNat
def RetAf(w:World)(B X k:Nat)(N:Nt)(ms:List WMsg)(en:Ending)(w':World):Prop:= en= .returned (.bool true)∧∃N',Bex w' X (cellsNt N')∧NtP w' X N'∧(∀j,N'.mut X j→B≤ j)∧AftS N N' k ms∧Below B w w'
theorem tq72 {P:Prop}(h:P:=by
 go_wp2_with((with_reducible refine at_store 3 (.tmp 100) (.tmp 99) ?_);refine wpList_set_own rfl (.tmp 100) (.tmp 99) rfl size1_nd.1 bl ol tn l.length lc (l.map (Value.int .i64)) (.int .i64 (k:Int)) rfl rfl rfl rfl HPv.led HLQ.2 ?_;intro w13 ho hw;have HO13:=h_ ho;have HW13:=h_ hw;clear ho hw);(try simp only[Act.put]);go_meet;have hln:(l.set tn (k:Int)).length=l.length:= List.length_set;have hne:X≠ bl:=fun h5=>(HPv.sl bl rfl).1 h5.symm
 have hX13:Bex w13 X (cellsNt ({N3 with led:=l.set tn (k:Int),la:=some ⟨bl,ol,none⟩,lc:=lc}:Nt)):=by
  have h5:=HXv.wrote HW13.out hne;show Bex w13 X (cellsNt ({N3 with led:=l.set tn (k:Int),la:=some ⟨bl,ol,none⟩,lc:=lc}:Nt))
  rw[show cellsNt ({N3 with led:=l.set tn (k:Int),la:=some ⟨bl,ol,none⟩,lc:=lc}:Nt)=cellsNt ({N3 with led:=l,la:=some ⟨bl,ol,none⟩,lc:=lc}:Nt) by show _::_= _;rw[hln]];exact h5
 have hka:Keep (fun j=>blkOf (some (⟨bl,ol,none⟩:Addr))=some j) wr w13:=Keep.wrote HW13.out rfl;have hP13:NtP w13 X ({N3 with led:=l.set tn (k:Int),la:=some ⟨bl,ol,none⟩,lc:=lc}:Nt):=HPv.led_upd (N:=({N3 with led:=l,la:=some ⟨bl,ol,none⟩,lc:=lc}:Nt)) HXv.lt hka (by rw[hln,List.map_set];exact HO13.out) (fun j h5=> .inl h5);have hl13:∀j,({N3 with led:=l.set tn (k:Int),la:=some ⟨bl,ol,none⟩,lc:=lc}:Nt).mut X j→B≤ j:=Nt.lo_led (N:=({N3 with led:=l,la:=some ⟨bl,ol,none⟩,lc:=lc}:Nt)) (w:=wr) HLv.out (Nat.le_trans HBS.out HBv.size) (fun j h5=> .inl h5)
 exact⟨rfl,l.set tn (k:Int),some ⟨bl,ol,none⟩,lc,hX13,hP13,hl13,(by show _=_;unfold ledF;rw[if_pos HRL.out,HLQ.1];rfl),HBv.trans (HW13.below _ (HLv bl (.inr (.inr (.inr (.inl rfl))))))⟩):P:=h
theorem after_nd{w:World}{X B k:Nat}{N:Nt}(hx:Bex w X (cellsNt N))(hp:NtP w X N)(hB:B≤ w.heap.size)(hlo:∀j,N.mut X j→B≤ j)(h1:1≤ k)(h3:k≤ 3)(ef:Ef)(hrow:FRow (N.mut X) w ef.sa (ef.sl.flatMap cellsMs))(hms:∀m∈ ef.sl,MsAt (N.mut X) w m)(hal:N.air.length≤ 10000)(hsl:ef.sl.length≤ 10000)(hll:N.led.length≤ 100000)(hdl:N.done.length≤ 4000)(hok:okR 0 0 (N.x k).n.es=true)(hlen:(N.x k).n.es.length≤4000)(ht0:0≤ (N.x k).n.hT)(ht1:(N.x k).n.hT≤100000)(hled:∀h: (N.x k).n.hT.toNat<(N.led++List.replicate ((N.x k).n.hT.toNat+1- N.led.length) 0).length,(N.x k).n.role=2→ (N.led++List.replicate ((N.x k).n.hT.toNat+1- N.led.length) (0:Int))[(N.x k).n.hT.toNat]=0∨ (N.led++List.replicate ((N.x k).n.hT.toNat+1- N.led.length) (0:Int))[(N.x k).n.hT.toNat]=k)(hc0:0≤ (N.x k).n.com)(hc1:(N.x k).n.com≤(N.x k).n.es.length)(hcd:∀i (_:i< (N.x k).n.com.toNat) (h2:i< (N.x k).n.es.length) (h3:i< (ents N.done).length),(N.x k).n.es[i]=(ents N.done)[i]):
 Calls Tryz.prog 23 #[.pointer (some ⟨X,0,none⟩),.int .i64 (k:Int),.agg (cellsEf ef).toArray] w (RetAf w B X k N (ef.sl.map Ms.m)):=by
 have HX:=h_ hx;have HP:=h_ hp;have HLO:=h_ hlo;have HBS:=h_ hB;have HK:=h_ (And.intro h1 h3);have HRW0:=h_ hrow;have HMS:=h_ hms;have HNUM:=h_ (And.intro hal (And.intro hsl (And.intro hll hdl)));have HES:=h_ (And.intro hok (And.intro hlen (And.intro ht0 ht1)));have HLED:=h_ hled;have HCM:=h_ (And.intro hc0 (And.intro hc1 hcd));have HHD:=h_ (fun w' (h:NtP w' X N)=>hard_nd (h.nd k h1 h3));have HRWS:=h_ (fun w' (h:NtP w' X N) (hX:X< w'.heap.size)=>rows_nd (U:=N.mut X) (h.nd k h1 h3) o_ (h.old hX));have HEB:=h_ (Bex.new w (cellsEf ef) 54);have HBB:Hid (Below w.heap.size w (w.alloc (.cells (cellsEf ef).toArray 54))):=mid_alloc' b_;have HXB:Hid (B≤X):=hlo X (.inl rfl);have i1:k< 4:=o_;have i2:(k:Int)<4:= o_;have i3:(0:Int)≤(k:Int):=o_;have hxl:=hx.lt;clear hx hp hB hlo h1 h3 hrow hms hal hsl hll hdl hok hlen ht0 ht1 hled hc0 hc1 hcd;go_enter Tryz.func23,Tryz.ntmps23;go_upto_region 1 with fail;refine wrq (fun l w'=>(w'.cell? ⟨X,k,none⟩=some (.pointer (some ⟨N.g k,0,none⟩)))) ?_;obtain⟨w1,hwd⟩:∃y,y=World.drew (w.alloc (.cells (cellsEf ef).toArray 54)):=⟨_,rfl⟩;rw[←hwd];have hb:Below (w.alloc (.cells (cellsEf ef).toArray 54)).heap.size (w.alloc (.cells (cellsEf ef).toArray 54)) w1:=by rw[hwd];exact b_.drew
 clear hwd;have HB1:=h_ ((HBB.trans (hb.mono HBB.size)).mono HBS.out);have HX1:=h_ ((HX.next HBB.out).next hb);have HP1:=h_ ((HP.next HBB.out).next hb);have HE1:=h_ (HEB.next hb);have HR1:=h_ ((HRW0.below HBB.out).below hb);have HM1:Hid (∀m∈ ef.sl,MsAt (N.mut X) _ m):=fun m h5=>((HMS m h5).below HBB.out).below hb
 clear hb;refine toS (by rw[HX1.cell' k];exact nt_ptr HK.1 HK.2) ?_;refine tkq 0 ?_;refine tkq 1 ?_;refine tkq 2 ?_;refine tkq 3 ?_;refine tkq 4 ?_;refine tkq 5 ?_;refine tkq 6 ?_;refine tkq 7 ?_;refine tkq 9 ?_;refine tkq 10 ?_;refine soq 8 (fun K hK=> ?_);go_simp;go_at_call 11
 with_reducible refine(HHD.out _ HP1.out).mono ?_
 rintro en w2 ⟨rfl,hb⟩;have HX2:=h_ (HX1.next hb);have HP2:=h_ (HP1.next hb);have HE2:=h_ (HE1.next hb);have HR2:=h_ (HR1.below hb);have HM2:Hid (∀m∈ ef.sl,MsAt (N.mut X) _ m):=fun m h5=>(HM1 m h5).below hb
 have HB2:=h_ (HB1.trans (hb.mono (Nat.le_trans HBS.out HB1.size)));clear hb;refine hK.out _ _ (by rw[HX2.cell' k];exact nt_ptr HK.1 HK.2) ?_;clear hK K;refine tkq 11 ?_;refine soq 12 (fun K hK=> ?_);rw[if_pos (by rfl)];refine op_part_bex layHd (.tmp 22) (.tmp 19) rfl X (8+k* 3) ⟨(N.x k).n.hT,(N.x k).n.hV,(N.x k).n.hB⟩ _ rfl rfl HX2.out (by have:=HK.2;show 8+k* 3+3≤ 35;omega) ?_;intro w3 hx hw;have HX3:Hid (Bex w3 X (cellsNt ({N with hT:=upd N.hT k (N.x k).n.hT,hV:=upd N.hV k (N.x k).n.hV,hB:=upd N.hB k (N.x k).n.hB}:Nt))):=by show Bex _ _ _;rw[←nt_hset HK.2 _ _ _];exact hx
 have HP3:Hid (NtP w3 X ({N with hT:=upd N.hT k (N.x k).n.hT,hV:=upd N.hV k (N.x k).n.hV,hB:=upd N.hB k (N.x k).n.hB}:Nt)):=(HP2.wroteX HX2.lt hw).hard _ _ _;have HE3:=h_ (HE2.wrote hw o_);have HB3:=h_ (HB2.trans (hw.below _ HXB.out));have HR3:=h_ (HR2.step (Keep.wrote (T:=fun j=>j= X) hw rfl) (fun j h5=> .inl h5) (fun _ _ h5=>h5));have HM3:Hid (∀m∈ ef.sl,MsAt (N.mut X) _ m):=fun m h5=>(HM2 m h5).step (Keep.wrote (T:=fun j=>j= X) hw rfl) (fun j h5=> .inl h5) (fun _ _ h5=>h5)
 clear hx hw;refine hK.out _ _ (by rw[HX3.cell' k];exact nt_ptr HK.1 HK.2) ?_;clear hK K;refine sdq ?_;go_upto_region 2 with fail;refine wrq (fun l w'=>(w'.cell? ⟨X,k,none⟩=some (.pointer (some ⟨N.g k,0,none⟩)))) ?_;obtain⟨w4,hwd⟩:∃y,y=World.drew w3:=⟨_,rfl⟩;rw[←hwd];have hb:Below w3.heap.size w3 w4:=by rw[hwd];exact b_.drew
 clear hwd;have HX4:=h_ (HX3.next hb);have HP4:=h_ (HP3.next hb);have HE4:=h_ (HE3.next hb);have HR4:=h_ (HR3.below hb);have HM4:Hid (∀m∈ ef.sl,MsAt (N.mut X) _ m):=fun m h5=>(HM3 m h5).below hb
 have HB4:=h_ (HB3.trans (hb.mono (Nat.le_trans HBS.out HB3.size)));clear hb;refine toS (by rw[HX4.cell' k];exact nt_ptr HK.1 HK.2) ?_;refine tkq 0 ?_;refine tkq 1 ?_;refine tkq 2 ?_;refine tkq 3 ?_;refine tkq 4 ?_;refine tkq 5 ?_;refine tkq 6 ?_;refine tkq 7 ?_;refine tkq 9 ?_;refine tkq 10 ?_;refine soq 8 (fun K hK=> ?_);go_simp;go_at_call 43
 with_reducible refine(HRWS.out _ (NtP.unhard HP4.out) HX4.out.lt).mono ?_
 rintro en w5 ⟨ar,cr,fs,rfl,hfs,hfe,hb⟩;have HFS:=h_ hfs;have HFE:=h_ hfe;have HX5:=h_ (HX4.next hb);have HP5:=h_ (HP4.next hb);have HE5:=h_ (HE4.next hb);have HR5:=h_ (HR4.below hb);have HM5:Hid (∀m∈ ef.sl,MsAt (N.mut X) _ m):=fun m h5=>(HM4 m h5).below hb
 have HB5:=h_ (HB4.trans (hb.mono (Nat.le_trans HBS.out HB4.size)));clear hb hfs hfe;refine hK.out _ _ (by rw[HX5.cell' k];exact nt_ptr HK.1 HK.2) ?_;clear hK K;refine tkq 11 ?_;refine soq 12 (fun K hK=> ?_);rw[if_pos (by rfl)];refine op_part_bex layRs (.tmp 34) (.tmp 31) rfl X (20+k* 3) ⟨0,0,ar,fs.length,cr⟩ _ rfl rfl HX5.out (by have:=HK.2;show 20+k* 3+3≤ 35;omega) ?_;intro w6 hx hw;have HX6:Hid (Bex w6 X (cellsNt ({({N with hT:=upd N.hT k (N.x k).n.hT,hV:=upd N.hV k (N.x k).n.hV,hB:=upd N.hB k (N.x k).n.hB}:Nt)with rs:=upd N.rs k fs,ra:=upd N.ra k ar,rc:=upd N.rc k cr}:Nt))):=by show Bex _ _ _;rw[←nt_rset (N:=({N with hT:=upd N.hT k (N.x k).n.hT,hV:=upd N.hV k (N.x k).n.hV,hB:=upd N.hB k (N.x k).n.hB}:Nt)) HK.2 ar fs cr];exact hx
 have HP6:Hid (NtP w6 X ({({N with hT:=upd N.hT k (N.x k).n.hT,hV:=upd N.hV k (N.x k).n.hV,hB:=upd N.hB k (N.x k).n.hB}:Nt)with rs:=upd N.rs k fs,ra:=upd N.ra k ar,rc:=upd N.rc k cr}:Nt)):=(HP5.wroteX HX5.lt hw).rowsU (HFE.step (Keep.wrote (T:=fun j=>j= X) hw rfl) (fun j h5=> .inl h5) (fun _ _ h5=>h5));have HE6:=h_ (HE5.wrote hw o_);have HB6:=h_ (HB5.trans (hw.below _ HXB.out));have HR6:=h_ (HR5.step (Keep.wrote (T:=fun j=>j= X) hw rfl) (fun j h5=> .inl h5) (fun _ _ h5=>h5));have HM6:Hid (∀m∈ ef.sl,MsAt (N.mut X) _ m):=fun m h5=>(HM5 m h5).step (Keep.wrote (T:=fun j=>j= X) hw rfl) (fun j h5=> .inl h5) (fun _ _ h5=>h5)
 clear hx hw;refine hK.out _ _ (by rw[HX6.cell' k];exact nt_ptr HK.1 HK.2) ?_;clear hK K;refine sdq ?_;go_upto_region 3 with fail;refine wrq (fun l w'=>(w'.cell? ⟨w.heap.size,4,none⟩=some (.slice ef.sa ef.sl.length ef.sc))∧Till 10 l (w'.cell? ⟨X,32,none⟩=some (.slice N.aa N.air.length N.ac))) ?_;obtain⟨w7,hwd⟩:∃y,y=World.drew w6:=⟨_,rfl⟩;rw[←hwd];have hb:Below w6.heap.size w6 w7:=by rw[hwd];exact b_.drew
 clear hwd;have HX7:=h_ (HX6.next hb);have HP7:=h_ (HP6.next hb);have HE7:=h_ (HE6.next hb);have HR7:=h_ (HR6.below hb);have HM7:Hid (∀m∈ ef.sl,MsAt (N.mut X) _ m):=fun m h5=>(HM6 m h5).below hb
 have HB7:=h_ (HB6.trans (hb.mono (Nat.le_trans HBS.out HB6.size)));clear hb;refine toS ⟨HE7.box.cell (j:=4) rfl,fun _=>(HX7.cell' 32).trans rfl⟩ ?_;refine ttq [] 0 ?_;refine ttq [] 1 ?_;refine ttq [] 2 ?_;refine ttq [] 3 ?_;refine ttq [10] 4 ?_;refine ttq [] 5 ?_;refine ttq [10] 6 ?_;refine soq 7 (fun K hK=> ?_);rw[if_pos (by rfl)];refine op_ownO el_msg (.tmp 39) (.tmp 41) rfl N.aa N.air.length N.ac (N.air.flatMap cellsMs) rfl HP7.air ef.sa ef.sl.length ef.sc (ef.sl.flatMap cellsMs) rfl (layMs.length _) HR7.row (layMs.ones _) (by have:=HNUM.1;have:=HNUM.2.1;omega) ?_;intro sa sc w8 ho3 hg3 hn3;have HKA:Hid (Keep (fun j=>blkOf N.aa=some j) w7 w8):=Keep.grown hg3 (fun j h5=>h5);have HX8:=h_ (HX7.block (hg3.block X HX7.lt (fun h5=>(HP7.sa X h5.symm).1 rfl)));have HE8:=h_ (HE7.block (hg3.block _ HE7.lt (fun h5=>by have:=HP.air.lt _ h5.symm;omega)))
 have HP8:Hid (NtP w8 X { {({N with hT:=upd N.hT k (N.x k).n.hT,hV:=upd N.hV k (N.x k).n.hV,hB:=upd N.hB k (N.x k).n.hB}:Nt)with rs:=upd N.rs k fs,ra:=upd N.ra k ar,rc:=upd N.rc k cr}with air:=N.air++ ef.sl,aa:=sa,ac:=sc}):=HP7.air_upd HX7.lt HKA.out (by rw[List.length_append,List.flatMap_append];exact ho3) hn3 (fun m h5=>by
  rcases List.mem_append.1 h5 with h5|h5
  ·exact HP7.msgs m h5
  ·exact HM7.out m h5)
 have HB8:=h_ (HB7.trans (HKA.below (Nat.le_trans HBS.out HB7.size) (fun j h5=>HLO.out j (.inr (.inr (.inl h5))))));have HN8:=h_ hn3;clear ho3 hg3 hn3;refine hK.out _ _ ⟨HE8.box.cell (j:=4) rfl,fun _=>(HX8.cell' 32).trans rfl⟩ ?_;clear hK K;refine ttq [] 8 ?_;refine ttq [] 9 ?_;refine soq 10 (fun K hK=> ?_);rw[if_pos (by rfl)];refine op_field_bex (.tmp 44) (.tmp 42) rfl size1_nd.2.2.2.1 X 32 _ (.slice sa (N.air.length+ef.sl.length) sc) rfl rfl rfl rfl HX8.out (show 32<35 by decide) ?_;intro w9 hx hw;have HX9:Hid (Bex w9 X (cellsNt { {({N with hT:=upd N.hT k (N.x k).n.hT,hV:=upd N.hV k (N.x k).n.hV,hB:=upd N.hB k (N.x k).n.hB}:Nt)with rs:=upd N.rs k fs,ra:=upd N.ra k ar,rc:=upd N.rc k cr}with air:=N.air++ ef.sl,aa:=sa,ac:=sc})):=by have h5:=hx;rw[←List.length_append]at h5;exact h5
 have HP9:=h_ (HP8.wroteX HX8.lt hw);have HE9:=h_ (HE8.wrote hw o_);have HB9:=h_ (HB8.trans (hw.below _ HXB.out));clear hx hw;refine hK.out _ _ ⟨HE9.box.cell (j:=4) rfl,fun h=>absurd h d_⟩ ?_;clear hK K;refine sdq ?_;obtain⟨N3,hN3⟩:∃N3,N3=({ {({N with hT:=upd N.hT k (N.x k).n.hT,hV:=upd N.hV k (N.x k).n.hV,hB:=upd N.hB k (N.x k).n.hB}:Nt)with rs:=upd N.rs k fs,ra:=upd N.ra k ar,rc:=upd N.rc k cr}with air:=N.air++ ef.sl,aa:=sa,ac:=sc}:Nt):=⟨_,rfl⟩;rw[←hN3]at HX9 HP9;have HLO9:Hid (∀j,N3.mut X j→B≤ j):=by rw[hN3];exact Nt.lo_air (N:=({({N with hT:=upd N.hT k (N.x k).n.hT,hV:=upd N.hV k (N.x k).n.hV,hB:=upd N.hB k (N.x k).n.hB}:Nt)with rs:=upd N.rs k fs,ra:=upd N.ra k ar,rc:=upd N.rc k cr}:Nt)) (w:=w7) HLO.out (Nat.le_trans HBS.out HB7.size) HN8.out
 have eg:N3.g= N.g:=by rw[hN3]
 have ex:N3.x= N.x:=by rw[hN3]
 have eT:N3.hT= upd N.hT k (N.x k).n.hT:=by rw[hN3]
 have el:N3.led= N.led:=by rw[hN3]
 have ed:N3.done= N.done:=by rw[hN3]
 have HN3:=h_ hN3;have HLD:=h_ (fun w' (h:NtP w' X N3)=>leads_nd (h.nd k HK.1 HK.2));rw[ex]at HLD;have HCO:=h_ (fun w' N4 (h:NtP w' X N4)=>commit_nd (h.nd k HK.1 HK.2));have HT8:Hid (N3.hT k=(N.x k).n.hT):=by show _=_;rw[eT,upd_same]
 have HEL:=h_ el;have HED:=h_ ed;have HEG:=h_ eg;have HEX:=h_ ex;obtain⟨rl,hrl⟩:∃rl,(N.x k).n.role=rl:= ⟨_,rfl⟩;obtain⟨tn,htn⟩:∃tn: Nat,(N.x k).n.hT=(tn:Int):=⟨(N.x k).n.hT.toNat,by have:=HES.2.2.1;omega⟩;have HLDF:Hid (ledF N.led (N.x k).n.role (N.x k).n.hT k=ledF N.led rl (tn:Int) k):=by show _=_;rw[hrl,htn]
 rw[hrl]at HLD HLED;obtain⟨rb,hrb⟩:∃rb,decide (rl=2)=rb:= ⟨_,rfl⟩;rw[hrb]at HLD;have HRB:=h_ hrb;clear hrb;rw[htn]at HT8 HLED;simp only[Int.toNat_natCast]at HLED;have HTN:Hid (tn≤100000):=by show _≤_;have:=HES.2.2.2;omega
 clear hN3 eg ex eT el ed hrl htn;have kc:w9.cell? ⟨X,k,none⟩=some (.pointer (some ⟨N3.g k,0,none⟩)):=(HX9.cell' k).trans (nt_ptr HK.1 HK.2);go_upto_if 51 with(go_at_call 12;((with_reducible refine(HLD.out _ HP9.out).mono ?_);rintro en w10 ⟨rfl,hb⟩;have HX10:=h_ (HX9.next hb);have HP10:=h_ (HP9.next hb);have HB10:=h_ (HB9.trans (hb.mono (Nat.le_trans HBS.out HB9.size)));clear hb kc));clear HX1 HP1 HE1 HR1 HM1 HX2 HP2 HE2 HR2 HM2 HX3 HP3 HE3 HR3 HM3 HX4 HP4 HE4 HR4 HM4 HX5 HP5 HE5 HR5 HM5 HX6 HP6 HE6 HR6 HM6 HX7 HP7 HE7 HR7 HM7 HX8 HP8 HE8 HX9 HP9 HE9;go_cut [6,7]from 52 to 101 (fun u v wx=>u= .bool false∧∃(l:List Int) (la:Option Addr) (lc:Nat),Hid (Bex wx X (cellsNt ({N3 with led:=l,la:=la,lc:=lc}:Nt)))∧Hid (NtP wx X ({N3 with led:=l,la:=la,lc:=lc}:Nt))∧Hid (∀j,({N3 with led:=l,la:=la,lc:=lc}:Nt).mut X j→B≤ j)∧Hid (l=ledF N.led rl (tn:Int) k)∧Hid (Below B w wx))
 case first=>as_aux_lemma=>
  cases rb with
  |false=>
   have HQL:Hid (N3.led=ledF N.led rl (tn:Int) k):=by show _=_;rw[HEL.out];exact(if_neg (of_decide_eq_false HRB.out)).symm
   go_wp2_with fail;go_meet;exact⟨rfl,N3.led,N3.la,N3.lc,HX10,HP10,HLO9,HQL,HB10⟩
  |true=>
   have HRL:Hid (rl=2):=h_ (of_decide_eq_true HRB.out);have kt:w10.cell? ⟨X,8+k* 3,none⟩=some (.int .i64 (tn:Int)):=by rw[HX10.cell' _,nt_ht HK.2,HT8.out]
   go_wp2_with fail;go_loopw [66] (fun sv wr=>∃(i:Nat) (l:List Int) (la:Option Addr) (lc:Nat),Hid (Bex wr X (cellsNt ({N3 with led:=l,la:=la,lc:=lc}:Nt)))∧Hid (NtP wr X ({N3 with led:=l,la:=la,lc:=lc}:Nt))∧Hid (∀j,({N3 with led:=l,la:=la,lc:=lc}:Nt).mut X j→B≤ j)∧Hid (l=N.led++ List.replicate i 0∧(i=0∨ l.length≤tn+ 1))∧Hid (Below B w wr)) (fun _ wr=>ledGap wr X tn)
   case atStart=>exact ⟨0,N3.led,N3.la,N3.lc,HX10,HP10,HLO9,⟨by rw[HEL.out];simp,.inl rfl⟩,HB10⟩
   case round=>as_aux_lemma=>
    obtain⟨i,l,la,lc,HXv,HPv,HLv,HLL,HBv⟩:=hrel;have k33:wr.cell? ⟨X,33,none⟩=some (.slice la l.length lc):=(HXv.cell' 33).trans rfl;clear kt;have HLB:Hid (l.length≤200000):=by
     show _≤_
     have h5:=HLL.2;have h6:=HNUM.2.2.1;have h7:=HTN.out;rcases h5 with h5|h5
     ·rw[HLL.1,h5];simp;omega
     ·omega
    by_cases hlt:l.length≤ tn
    ·have e1:decide (l.length≤tn)=true:= decide_eq_true hlt;have e2:decide ((l.length:Int)≤(tn:Int))=true:= decide_eq_true o_;have HLT:=h_ hlt;have HBA:Hid (Below wr.heap.size wr (wr.alloc (.cells #[.int .i64 0] 3))):=mid_alloc' b_;clear hlt;go_wp2_with(first|(at_builtin;refine wpList_ownO el_ints rfl (.tmp 70) (.tmp 71) rfl la l.length lc (l.map (Value.int .i64)) rfl (HPv.led.keep (fun j h5=>Below.block (B:=wr.heap.size) (mid_alloc' b_) j (HPv.led.lt j h5))) (some ⟨wr.heap.size,0,none⟩) 1 1 [.int .i64 0] rfl rfl (Row.new _ _ _ _) (ints_one [0]) (by have:=HLB.out;omega) ?_;intro la2 lc2 w12 ho hg hn;have HO12:=h_ ho;have HG12:=h_ hg;have HN12:=h_ hn;have HX12:Hid (Bex w12 X (cellsNt ({N3 with led:=l,la:=la,lc:=lc}:Nt))):=HXv.block ((hg.block X (Nat.lt_of_lt_of_le HXv.lt HBA.size) (fun h5=>(HPv.sl X h5.symm).1 rfl)).trans (HBA.block X HXv.lt));clear ho hg hn)|((with_reducible refine at_store 36 (.tmp 74) (.tmp 72) ?_);refine wpList_field_bex rfl (.tmp 74) (.tmp 72) rfl size1_ints X 33 _ (.slice la2 (l.length+1) lc2) rfl rfl rfl rfl HX12.out (show 33<35 by decide) ?_;intro w13 hx hw;have HX13:=h_ hx;have HW13:=h_ hw;clear hx hw));have hba:=HBA.out;have hka:Keep (fun j=>blkOf la=some j) (wr.alloc (.cells #[.int .i64 0] 3)) w12:=Keep.grown HG12.out (fun j h5=>h5);have hlen:(l++[(0:Int)]).length=l.length+ 1:=by simp
     have hX13:Bex w13 X (cellsNt ({N3 with led:=l++ [0],la:=la2,lc:=lc2}:Nt)):=by
      have h5:=HX13.out;rw[←hlen]at h5;exact h5
     have hP12:NtP w12 X ({N3 with led:=l++ [0],la:=la2,lc:=lc2}:Nt):=(HPv.next hba).led_upd (N:=({N3 with led:=l,la:=la,lc:=lc}:Nt)) (Nat.lt_of_lt_of_le HXv.lt hba.size) hka (by rw[hlen,List.map_append];exact HO12.out) HN12.out;have hl13:∀j,({N3 with led:=l++ [0],la:=la2,lc:=lc2}:Nt).mut X j→B≤ j:=Nt.lo_led (N:=({N3 with led:=l,la:=la,lc:=lc}:Nt)) HLv.out (Nat.le_trans HBS.out (Nat.le_trans HBv.size hba.size)) HN12.out;have hb13:Below B w w13:=((HBv.trans (hba.mono (Nat.le_trans HBS.out HBv.size))).trans (hka.below (Nat.le_trans HBS.out (Nat.le_trans HBv.size hba.size)) (fun j h5=>HLv.out j (.inr (.inr (.inr (.inl h5))))))).trans (HW13.below _ HXB.out);have q13:w13.cell? ⟨X,33,none⟩=some (.slice la2 (l.length+1) lc2):=by rw[←hlen];exact(hX13.cell' 33).trans rfl
     have HQ13:=h_ (And.intro k33 q13);have HR13:=h_ (And.intro hX13 (And.intro (hP12.wroteX HX12.lt HW13.out) (And.intro hl13 hb13)));have HLL2:Hid (l++[(0:Int)]=N.led++ List.replicate (i+1) 0∧(i+1= 0∨(l++[(0:Int)]).length≤tn+ 1)):=⟨by rw[HLL.1,List.append_assoc,List.replicate_succ'],.inr (by rw[hlen];have:=HLT.out;omega)⟩;clear hba hka hlen hX13 hP12 hl13 hb13 q13 k33 e1 e2;simp only[Act.put];go_roundw
     case rel=>exact ⟨i+1,l++[0],la2,lc2,HR13.1,HR13.2.1,HR13.2.2.1,HLL2,HR13.2.2.2⟩
     case measure=>
      rw[ledGap_eq HQ13.1,ledGap_eq HQ13.2];have:=HLT.out;omega
    ·have e1:decide (l.length≤tn)=false:= decide_eq_false hlt;have e2:decide ((l.length:Int)≤(tn:Int))=false:= decide_eq_false o_;have hlt2:tn< l.length:=o_;have hlq:l= N.led++List.replicate (tn+1- N.led.length) 0:=by
      have h5:=HLL.1;have h6:l.length= N.led.length+i:= by rw[h5];simp
      rcases HLL.2 with h7|h7
      ·rw[h5,h7,show tn+1- N.led.length=0 by omega]
      ·rw[h5,show i=tn+ 1-N.led.length by omega]
     obtain⟨bl,ol,rfl,hcl⟩:=row_cells HPv.led.row (by intro h5;have h6:=congrArg List.length h5;rw[List.length_map]at h6;simp only[List.length_nil]at h6;omega);have hvd:l[tn]=0∨ l[tn]=(k:Int):=by
      have h5:=HLED.out (by rw[←hlq];exact hlt2) HRL.out;simpa only[←hlq]using h5
     obtain⟨v,hv⟩:∃v,l[tn]=v:= ⟨_,rfl⟩;rw[hv]at hvd;have kl:wr.cell? ⟨bl,ol+tn,none⟩=some (.int .i64 v):=by
      refine hcl tn _ ?_;rw[List.getElem?_map,List.getElem?_eq_getElem hlt2,hv];rfl
     have HLQ:=h_ (And.intro hlq hlt2);have g1:(tn:Int)<(l.length:Int):=o_;have g2:(0:Int)≤(tn:Int):=o_;clear hlq hv hcl;rcases hvd with rfl|rfl
     ·exact tq72
     ·have d5:((k:Int) !=0)=true:= by have:=HK.1;simp;omega
      exact tq72
 obtain⟨rfl,l,la,lc,HX11,HP11,HL11,HLF,HB11⟩:=hcut;obtain⟨N5,hN5⟩:∃N5,N5=({N3 with led:=l,la:=la,lc:=lc}:Nt):=⟨_,rfl⟩;rw[←hN5]at HX11 HP11 HL11;have HG5:Hid (N5.g k=N3.g k):=by show _=_;rw[hN5]
 have HX5:Hid (N5.x=N.x):=by show _=_;rw[hN5];exact HEX.out
 have HD5:Hid (N5.done=N.done):=by show _=_;rw[hN5];exact HED.out
 have HN5:=h_ hN5;have hrs5:ents (N5.rs k)=(N.x k).n.es:=by
  rw[hN5];show ents (N3.rs k)=_
  rw[HN3.out];show ents (upd N.rs k fs k)=_
  rw[upd_same];exact HFS.out
 have HRS5:=h_ hrs5;have hen5:(N5.rs k).length=(N.x k).n.es.length:=by rw[←ents_len,hrs5]
 have HEN5:=h_ hen5;obtain⟨es,hes⟩:∃es,(N.x k).n.es=es:= ⟨_,rfl⟩;obtain⟨cn,hcn⟩:∃cn: Nat,(N.x k).n.com=(cn:Int):=⟨(N.x k).n.com.toNat,by have:=HCM.1;omega⟩;have HCN:Hid (cn≤es.length):=by show _≤_;have:=HCM.2.1;rw[hcn,hes]at this;omega
 have hcd:=HCM.2.2;rw[hcn,hes]at hcd;simp only[Int.toNat_natCast]at hcd;have HCD:=h_ hcd;have HESQ:=h_ (And.intro hes hcn);have HCO2:Hid (∀(w':World) (dn:List RwE) (da:Option Addr) (dc:Nat),NtP w' X ({N5 with done:=dn,da:=da,dc:=dc}:Nt)→Calls Tryz.prog 13 #[.pointer (some ⟨N5.g k,0,none⟩)] w' (RetN w' (cn:Int))):=fun w' dn da dc h=>by
  have h5:=HCO.out w' _ h;have h6:(({N5 with done:=dn,da:=da,dc:=dc}:Nt).x k).n.com=(cn:Int):=by show(N5.x k).n.com=_;rw[HX5.out];exact hcn
  rw[h6]at h5;exact h5
 have hl5:es.length≤ 4000:=by have:=HES.2.1;rw[hes]at this;exact this
 have hok5:okR 0 0 (ents (N5.rs k))=true:= by rw[hrs5];exact HES.1
 have HL5:=h_ hl5;have HOK5:=h_ hok5;have HENT:Hid (∀(w':World) (dn:List RwE) (da:Option Addr) (dc j:Nat) (hX:X< w'.heap.size),NtP w' X ({N5 with done:=dn,da:=da,dc:=dc}:Nt)→(hj:j< es.length)→Calls Tryz.prog 44 #[.agg #[.int .i64 0,.int .i64 0,.slice (N5.ra k) (N5.rs k).length (N5.rc k)],.int .i64 ((j:Int)+1)] w' (RetEy (({N5 with done:=dn,da:=da,dc:=dc}:Nt).mut X) w' es[j])):=fun w' dn da dc j hX h hj=>by
  have h5:=h.rows k HK.2;have hj2:j< (N5.rs k).length:=by rw[hen5,hes];exact hj
  have h6:=entry_nd (({N5 with done:=dn,da:=da,dc:=dc}:Nt).mut X) (N5.rs k) (N5.ra k) (N5.rs k).length (N5.rc k) j w' (h.old hX) rfl (by rw[hen5,hes];omega) hok5 h5.le h5.row.row (fun y hy=>(h5.each y hy).goodY) hj2;have h7:(N5.rs k)[j].1=es[j]:=by
   have h8:(ents (N5.rs k))[j]'(by rw[ents_len];exact hj2)=es[j]:=by simp only[hrs5,hes]
   rw[←h8,ents_at]
  rw[h7]at h6;exact h6
 clear hN5 hrs5 hen5 hes hcn hcd hl5 hok5;go_upto_region 11 with fail;go_wp2_with fail;go_loopw [8] (fun kv wr=>∃(j:Nat) (dn:List RwE) (da:Option Addr) (dc:Nat),kv= .int .i64 ((j:Int)+1)∧Hid (Bex wr X (cellsNt ({N5 with done:=dn,da:=da,dc:=dc}:Nt)))∧Hid (NtP wr X ({N5 with done:=dn,da:=da,dc:=dc}:Nt))∧Hid (∀i,({N5 with done:=dn,da:=da,dc:=dc}:Nt).mut X i→B≤ i)∧Hid (ents dn=doneAt (ents N.done) es j∧j≤ cn)∧Hid (Below B w wr)) (fun kv _=>((cn:Int)+1- intOf kv).toNat)
 case atStart=>exact ⟨0,N5.done,N5.da,N5.dc,rfl,HX11,HP11,HL11,⟨by rw[HD5.out];exact(if_pos (Nat.zero_le _)).symm,Nat.zero_le _⟩,HB11⟩
 case round=>as_aux_lemma=>
  obtain⟨j,dn,da,dc,rfl,HXv,HPv,HLv,HDN,HBv⟩:=hrel;have kc:wr.cell? ⟨X,k,none⟩=some (.pointer (some ⟨N5.g k,0,none⟩)):=(HXv.cell' k).trans (nt_ptr HK.1 HK.2);have HCC:=h_ (HCO2 wr dn da dc HPv.out);by_cases hj:j+ 1≤cn
  ·have d1:decide ((j:Int)+1≤ (cn:Int))=true:= decide_eq_true o_;have HJ:=h_ hj;have hjl:j< es.length:=by have:=HCN.out;omega
   have HJL:=h_ hjl;obtain⟨y,hy⟩:∃y,es[j]=y:= ⟨_,rfl⟩;have HYJ:Hid (es[j]=y):=hy;have HEY:Hid (∀(w':World),X<w'.heap.size→ NtP w' X ({N5 with done:=dn,da:=da,dc:=dc}:Nt)→Calls Tryz.prog 44 #[.agg #[.int .i64 0,.int .i64 0,.slice (N5.ra k) (N5.rs k).length (N5.rc k)],.int .i64 ((j:Int)+1)] w' (RetEy (({N5 with done:=dn,da:=da,dc:=dc}:Nt).mut X) w' y)):=fun w' hX h=>by rw[←hy];exact HENT.out w' dn da dc j hX h hjl
   clear hj hy;go_upto_region 17 with(first|(go_at_call 13;((with_reducible refine HCC.out.mono ?_);rintro en w12 ⟨rfl,hb⟩;have HX12:=h_ (HXv.next hb);have HP12:=h_ (HPv.next hb);have HB12:=h_ (HBv.trans (hb.mono (Nat.le_trans HBS.out HBv.size)));clear hb kc;have r0:w12.cell? ⟨X,20+k* 3,none⟩=some (.int .i64 0):=(HX12.cell' _).trans (nt_rw HK.2).1;have r1:w12.cell? ⟨X,20+k* 3+1,none⟩=some (.int .i64 0):=(HX12.cell' _).trans (nt_rw HK.2).2.1;have r2:w12.cell? ⟨X,20+k* 3+2,none⟩=some (.slice (N5.ra k) (N5.rs k).length (N5.rc k)):=(HX12.cell' _).trans (nt_rw HK.2).2.2))|(go_at_call 44;((with_reducible refine(HEY.out _ HX12.out.lt HP12.out).mono ?_);rintro en w14 ⟨p0,p1,rfl,hya,hb⟩;have HYA:=h_ hya;have HX14:=h_ (HX12.next hb);have HP14:=h_ (HP12.next hb);have HB14:=h_ (HB12.trans (hb.mono (Nat.le_trans HBS.out HB12.size)));clear hb hya r0 r1 r2))|((with_reducible refine at_store 79 (.tmp 9) (.tmp 121) ?_);refine wpList_store_bex layRw rfl (.tmp 9) (.tmp 121) rfl w14.heap.size (y,(p0,p1)) _ rfl rfl (Bex.new w14 _ _) rfl ?_;intro w15 hx hw;have hb15:Below w14.heap.size w14 w15:=((Below.refl w14.heap.size w14).alloc n_ _).trans (hw.below _ n_);have HYB:=h_ hx;have HX15:=h_ (HX14.next hb15);have HP15:=h_ (HP14.next hb15);have HYC:=h_ (HYA.step (Keep.of (T:=fun _=>False) hb15) (fun _ h5=>h5.elim) (fun _ _ h5=>h5));have HB15:=h_ (HB14.trans (hb15.mono (Nat.le_trans HBS.out HB14.size)));clear hx hw hb15));have k34:w15.cell? ⟨X,34,none⟩=some (.slice da dn.length dc):=(HX15.cell' 34).trans rfl;have hgx:X< w14.heap.size:=HX14.lt;obtain⟨g9,hg9⟩:∃q,q=w14.heap.size:= ⟨_,rfl⟩;rw[←hg9]at HYB ⊢;have HG9:Hid (X<g9):=by show _<_;omega
   have HG9B:Hid (w14.heap.size≤g9):=by show _≤_;omega
   have HG8:Hid (B≤g9):=by show _≤_;have:=HBS.out;have:=HB14.size;omega
   have f0:wrap64 ((j:Int)+1+ 1)=(j:Int)+1+ 1:=by have:=HCN.out;have:=HL5.out;exact IntWalk.wrap64_in _ o_
   have HJC:Hid ((j:Int)≤4000):=by show _≤_;have:=HCN.out;have:=HL5.out;omega
   clear hg9 hgx;by_cases hdj:dn.length≤ j
   ·have e1:decide (dn.length<j+ 1)=true:= decide_eq_true o_;have e2:decide ((dn.length:Int)<(j:Int)+1)=true:= decide_eq_true o_;have HDJ:=h_ hdj;clear hdj
    as_aux_lemma=>
    go_upto_region 18 with fail;clear k34 e1 e2;refine wrq (fun l w'=>(w'.cell? ⟨g9,0,none⟩=some (.int .i64 y.term)∧w'.cell? ⟨g9,1,none⟩=some (.int .i8 y.kind)∧w'.cell? ⟨g9,2,none⟩=some (.int .i64 y.stamp)∧w'.cell? ⟨g9,3,none⟩=some (Go.Proofs.YtoeofkcpclfnhaaGreat.B y.set)∧w'.cell? ⟨g9,4,none⟩=some (.slice p0 y.data.length p1))∧Till 10 l (w'.cell? ⟨X,34,none⟩=some (.slice da dn.length dc))) ?_;obtain⟨w16,hwd⟩:∃y,y=World.drew w15:=⟨_,rfl⟩;rw[←hwd];have hb:Below w15.heap.size w15 w16:=by rw[hwd];exact b_.drew
    clear hwd;have HX16:=h_ (HX15.next hb);have HP16:=h_ (HP15.next hb);have HYB16:=h_ (HYB.next hb);have HYC16:=h_ (HYC.step (Keep.of (T:=fun _=>False) hb) (fun _ h5=>h5.elim) (fun _ _ h5=>h5));have HB16:=h_ (HB15.trans (hb.mono (Nat.le_trans HBS.out HB15.size)));clear hb;refine toS ⟨⟨HYB16.box.cell (j:=0) rfl,HYB16.box.cell (j:=1) rfl,HYB16.box.cell (j:=2) rfl,HYB16.box.cell (j:=3) rfl,HYB16.box.cell (j:=4) rfl⟩,fun _=>(HX16.cell' 34).trans rfl⟩ ?_;refine ttq [] 0 ?_;refine ttq [] 1 ?_;refine ttq [] 2 ?_;refine ttq [] 3 ?_;refine ttq [10] 4 ?_;refine ttq [10] 5 ?_;refine soq 6 (fun K hK=> ?_);refine op_build_rw (.tmp 137) (y,(p0,p1)) rfl ?_;intro wb hxb hbb hsb;have HGS:=h_ hxb;have HX17:=h_ (HX16.next hbb);have HP17:=h_ (HP16.next hbb);have HYB17:=h_ (HYB16.next hbb);have HYC17:=h_ (HYC16.step (Keep.of (T:=fun _=>False) hbb) (fun _ h5=>h5.elim) (fun _ _ h5=>h5));have HB17:=h_ (HB16.trans (hbb.mono (Nat.le_trans HBS.out HB16.size)));clear hxb hbb hsb;refine hK.out _ _ ⟨⟨HYB17.box.cell (j:=0) rfl,HYB17.box.cell (j:=1) rfl,HYB17.box.cell (j:=2) rfl,HYB17.box.cell (j:=3) rfl,HYB17.box.cell (j:=4) rfl⟩,fun _=>(HX17.cell' 34).trans rfl⟩ ?_;clear hK K;refine soq 7 (fun K hK=> ?_);rw[if_pos (by rfl)];refine op_ownO el_ent (.tmp 136) (.tmp 138) rfl da dn.length dc (dn.flatMap cellsRw) rfl HP17.don (some ⟨w16.heap.size,0,none⟩) 1 1 (cellsRw (y,(p0,p1))) rfl rfl (Row.of_bex HGS.out) (layRw.one (y,(p0,p1))) (by have:=HDJ.out;have:=HJC.out;omega) ?_;intro d2 c2 w18 ho hg hn;have HKD:Hid (Keep (fun i=>blkOf da=some i) _ w18):=Keep.grown hg (fun i h5=>h5);have hln:(dn++[((y,(p0,p1)):RwE)]).length=dn.length+ 1:=by simp
    have HX18:=h_ (HX17.block (hg.block X HX17.lt (fun h5=>(HP17.sd X h5.symm).1 rfl)));have HYB18:=h_ (HYB17.block (hg.block g9 HYB17.lt (fun h5=>by have:=HP14.don.lt _ h5.symm;have:=HG9B.out;omega)))
    have HP18:Hid (NtP w18 X ({N5 with done:=dn++ [((y,(p0,p1)):RwE)],da:=d2,dc:=c2}:Nt)):=HP17.don_upd (N:=({N5 with done:=dn,da:=da,dc:=dc}:Nt)) HX17.lt HKD.out (by rw[hln,List.flatMap_append,List.flatMap_singleton];exact ho) hn (fun y5 h5=>by
     rcases List.mem_append.1 h5 with h5|h5
     ·exact HP17.dones y5 h5
     ·rw[List.mem_singleton]at h5;subst h5;exact HYC17.out)
    have HL18:Hid (∀i,({N5 with done:=dn++ [((y,(p0,p1)):RwE)],da:=d2,dc:=c2}:Nt).mut X i→B≤ i):=Nt.lo_done (N:=({N5 with done:=dn,da:=da,dc:=dc}:Nt)) HLv.out (Nat.le_trans HBS.out HB17.size) hn;have HB18:=h_ (HB17.trans (HKD.below (Nat.le_trans HBS.out HB17.size) (fun i h5=>HLv.out i (.inr (.inr (.inr (.inr h5)))))));have HLN:=h_ hln;clear ho hg hn hln;refine hK.out _ _ ⟨⟨HYB18.box.cell (j:=0) rfl,HYB18.box.cell (j:=1) rfl,HYB18.box.cell (j:=2) rfl,HYB18.box.cell (j:=3) rfl,HYB18.box.cell (j:=4) rfl⟩,fun _=>(HX18.cell' 34).trans rfl⟩ ?_;clear hK K;refine ttq [] 8 ?_;refine ttq [] 9 ?_;refine soq 10 (fun K hK=> ?_);rw[if_pos (by rfl)];refine op_field_bex (.tmp 141) (.tmp 139) rfl size1_nd.2.2.2.2.1 X 34 _ (.slice d2 (dn.length+1) c2) rfl rfl rfl rfl HX18.out (show 34<35 by decide) ?_;intro w19 hx hw;have HX19:Hid (Bex w19 X (cellsNt ({N5 with done:=dn++ [((y,(p0,p1)):RwE)],da:=d2,dc:=c2}:Nt))):=by have h5:=hx;rw[←HLN.out]at h5;exact h5
    have HP19:=h_ (HP18.wroteX HX18.lt hw);have HL19:=HL18;have HYB19:=h_ (HYB18.wrote hw (by have:=HG9.out;omega));have HB19:=h_ (HB18.trans (hw.below _ HXB.out));clear hx hw;refine hK.out _ _ ⟨⟨HYB19.box.cell (j:=0) rfl,HYB19.box.cell (j:=1) rfl,HYB19.box.cell (j:=2) rfl,HYB19.box.cell (j:=3) rfl,HYB19.box.cell (j:=4) rfl⟩,fun h=>absurd h d_⟩ ?_;clear hK K;refine sdq ?_;have HDN2:Hid (ents (dn++[((y,(p0,p1)):RwE)])=doneAt (ents N.done) es (j+1)∧j+ 1≤cn):=by
     refine⟨?_,HJ.out⟩;have h5:ents (dn++[((y,(p0,p1)):RwE)])=ents dn++[y]:=List.map_append;rw[h5,HDN.1,←HYJ.out];refine doneAt_app HJL.out HJ.out ?_ HCD.out;rw[←HDN.1,ents_len];exact HDJ.out
    go_wp2_with fail;go_roundw
    case rel=>exact ⟨j+1,_,d2,c2,congrArg (Value.int .i64) (loop_next f0),HX19.out,HP19.out,HL19.out,HDN2,HB19.out⟩
    case measure=>exact loop_meas f0 HJ.out
   ·have e1:decide (dn.length<j+ 1)=false:= decide_eq_false o_;have e2:decide ((dn.length:Int)<(j:Int)+1)=false:= decide_eq_false o_;have hdl:j< dn.length:=o_;have hda:j< (doneAt (ents N.done) es j).length:=by rw[←HDN.1,ents_len];exact hdl
    obtain⟨ho1,ho2,ho3⟩:=doneAt_old (Nat.le_of_lt HJL.out) hda;have hdd:ents dn=ents N.done:=HDN.1.trans ho2;have hyd:dn[j].1=y:= by
     have h5:=HYJ.symm.trans (HCD j HJ.out HJL.out ho1);have h6:(ents dn)[j]'(by rw[ents_len];exact hdl)=y:= by simp only[hdd];exact h5.symm
     rw[ents_at dn hdl]at h6;exact h6
    have HDN3:Hid (ents dn=doneAt (ents N.done) es (j+1)∧j+ 1≤cn):=⟨hdd.trans ho3.symm,HJ.out⟩;obtain⟨bd,od,rfl,-⟩:=entAt HP15.don.row hdl;have hrd:=row_one HP15.don.row hdl;have hgd:=(HP15.dones _ (List.getElem_mem hdl)).row.row;obtain⟨z,hz⟩:∃z,dn[j]=z:= ⟨_,rfl⟩;rw[hz]at hrd hgd hyd;obtain⟨z1,q0,q1⟩:=z;obtain rfl:z1= y:=hyd;have HRD:=h_ hrd;have HGD:=h_ hgd;have hdc:dn.length≤ dc:=HP15.don.2.1;have HSM:=h_ (fun(w':World) (gs:Nat) (hb:Below w15.heap.size w15 w') (hxs:Bex w' gs (cellsRw (z1,(p0,p1))))=>same_one z1 p0 q0 p1 q1 (some ⟨gs,0,none⟩) (some ⟨bd,od+j* 5,none⟩) 1 (dc-j) w' (HYC.row.row.below hb) (HGD.below hb) (Row.of_bex hxs) (HRD.below hb) n_ o_);have f1:j+ 1≤dc:= o_;have f3:¬dc= j:=o_;have f5:j+ 1-j= 1:=o_;have f6:¬dc- j=0:= o_;have f8:IntKind.i64.wrap ((j:Int)+1- 1)=(j:Int):=by have:=HJC.out;rw[IntWalk.i64_in _ o_];omega
    have f9:IntKind.i64.wrap (j:Int)=(j:Int):=by have:=HJC.out;exact IntWalk.i64_in _ o_
    have g3:(0:Int)≤(j:Int):=o_;have g4:(0:Int)≤(j:Int)+1:= o_;have g5:(j:Int)+1≤ (dc:Int):=o_;clear hdj hdl hda ho1 ho2 ho3 hdd hrd hgd hz hdc
    as_aux_lemma=>
    go_upto_region 19 with fail;clear k34 e1 e2;refine wrq (fun l w'=>(w'.cell? ⟨g9,0,none⟩=some (.int .i64 z1.term)∧w'.cell? ⟨g9,1,none⟩=some (.int .i8 z1.kind)∧w'.cell? ⟨g9,2,none⟩=some (.int .i64 z1.stamp)∧w'.cell? ⟨g9,3,none⟩=some (Go.Proofs.YtoeofkcpclfnhaaGreat.B z1.set)∧w'.cell? ⟨g9,4,none⟩=some (.slice p0 z1.data.length p1)∧w'.cell? ⟨X,34,none⟩=some (.slice (some ⟨bd,od,none⟩) dn.length dc))) ?_;obtain⟨w16,hwd⟩:∃y,y=World.drew w15:=⟨_,rfl⟩;rw[←hwd];have hb:Below w15.heap.size w15 w16:=by rw[hwd];exact b_.drew
    clear hwd;have HW16:=h_ hb;have HX16:=h_ (HX15.next hb);have HP16:=h_ (HP15.next hb);have HYB16:=h_ (HYB.next hb);have HB16:=h_ (HB15.trans (hb.mono (Nat.le_trans HBS.out HB15.size)));clear hb;refine toS ⟨HYB16.box.cell (j:=0) rfl,HYB16.box.cell (j:=1) rfl,HYB16.box.cell (j:=2) rfl,HYB16.box.cell (j:=3) rfl,HYB16.box.cell (j:=4) rfl,(HX16.cell' 34).trans rfl⟩ ?_;refine tkq 0 ?_;refine tkq 2 ?_;refine tkq 3 ?_;refine tkq 4 ?_;refine tkq 5 ?_;refine tkq 6 ?_;refine tkq 7 ?_;refine tkq 8 ?_;refine tkq 9 ?_;refine soq 1 (fun K hK=> ?_);refine op_build_rw (.tmp 142) (z1,(p0,p1)) rfl ?_;intro wb hxb hbb hsb;have HGS:=h_ hxb;have HW17:=h_ (HW16.trans (hbb.mono HW16.size));have HX17:=h_ (HX16.next hbb);have HP17:=h_ (HP16.next hbb);have HYB17:=h_ (HYB16.next hbb);have HB17:=h_ (HB16.trans (hbb.mono (Nat.le_trans HBS.out HB16.size)));clear hxb hbb hsb;refine hK.out _ _ ⟨HYB17.box.cell (j:=0) rfl,HYB17.box.cell (j:=1) rfl,HYB17.box.cell (j:=2) rfl,HYB17.box.cell (j:=3) rfl,HYB17.box.cell (j:=4) rfl,(HX17.cell' 34).trans rfl⟩ ?_;clear hK K;refine soq 10 (fun K hK=> ?_);go_simp;go_at_call 25
    with_reducible refine(HSM.out _ _ HW17.out HGS.out).mono ?_
    rintro en w18 ⟨rfl,hb⟩;have HX18:=h_ (HX17.next hb);have HP18:=h_ (HP17.next hb);have HYB18:=h_ (HYB17.next hb);have HB18:=h_ (HB17.trans (hb.mono (Nat.le_trans HBS.out HB17.size)));clear hb;refine hK.out _ _ ⟨HYB18.box.cell (j:=0) rfl,HYB18.box.cell (j:=1) rfl,HYB18.box.cell (j:=2) rfl,HYB18.box.cell (j:=3) rfl,HYB18.box.cell (j:=4) rfl,(HX18.cell' 34).trans rfl⟩ ?_;clear hK K;refine tkq 11 ?_;refine sdq ?_;go_wp2_with fail;go_roundw
    case rel=>exact ⟨j+1,dn,_,dc,congrArg (Value.int .i64) (loop_next f0),HX18.out,HP18.out,HLv.out,HDN3,HB18.out⟩
    case measure=>exact loop_meas f0 HJ.out
  ·have d1:decide ((j:Int)+1≤ (cn:Int))=false:= decide_eq_false o_;have HJ:=h_ hj;clear hj;go_wp2_with(go_at_call 13;((with_reducible refine HCC.out.mono ?_);rintro en w12 ⟨rfl,hb⟩;have HX12:=h_ (HXv.next hb);have HP12:=h_ (HPv.next hb);have HB12:=h_ (HBv.trans (hb.mono (Nat.le_trans HBS.out HBv.size)));clear hb kc));go_ret;have hjc:j= cn:=by have:=HDN.2;have:=HJ.out;omega
   refine⟨rfl,({N5 with done:=dn,da:=da,dc:=dc}:Nt),HX12.out,HP12.out,HLv.out,⟨?_,HX5.out,?_,?_,?_,?_,⟨fs,?_,HFS.out⟩,?_,?_,?_⟩,HB12.out⟩
   ·show N5.g=N.g
    rw[HN5.out];exact HEG.out
   ·show N5.now=N.now
    rw[HN5.out];show N3.now=_;rw[HN3.out]
   ·show N5.hT=_
    rw[HN5.out];show N3.hT=_;rw[HN3.out]
   ·show N5.hV=_
    rw[HN5.out];show N3.hV=_;rw[HN3.out]
   ·show N5.hB=_
    rw[HN5.out];show N3.hB=_;rw[HN3.out]
   ·show N5.rs=_
    rw[HN5.out];show N3.rs=_;rw[HN3.out]
   ·show N5.air.map Ms.m=_
    rw[HN5.out];show N3.air.map Ms.m=_;rw[HN3.out];exact List.map_append
   ·show N5.led=_
    rw[HN5.out,HLDF.out];exact HLF.out
   ·show ents dn=_
    rw[HESQ.1,HESQ.2,HDN.1,hjc];rfl
end Go.Proofs.YtoeofkcpclfnhaaGreat
