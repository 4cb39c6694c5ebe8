import Derived.Test.YtfdmhpohfjbpfaaGreatSrWirNum
set_option linter.unusedVariables false
set_option linter.unusedSimpArgs false
namespace Go.Proofs.YtfdmhpohfjbpfaaGreat
open Go.ChangeShapes Go.WideShapes Go.ChangeAt Go.RowKit
set_option maxRecDepth 100000
set_option maxHeartbeats 16000000
theorem Kc(D g gx ox c:Nat)(a:Option Addr)(bs:List UInt8)(x:UInt8)(w:World)(h:Cw w D g a c bs)(hD:D≤ w.heap.size)(hx:w.cell? ⟨gx,ox,none⟩=some (B x))(hgx:gx≠ g)(pz:∀o s,a≠some ⟨gx,o,s⟩)(hn:bs.length≤ 10000000):
 Calls Tryz.prog 154 #[.pointer (some ⟨g,0,none⟩),.pointer (some ⟨gx,ox,none⟩)] w (uC w D g a (bs++[x])):=by
 have hcw:=h_ h;have k0:=h.box.cell (j:=0) rfl;have k2:=h.box.cell (j:=2) rfl;have ea:g< w.heap.size:=World.block_lt_of_cell? w _ k0;have eb:gx< w.heap.size:=World.block_lt_of_cell? w _ hx;clear h hgx pz;go_enter Tryz.func154,Tryz.ntmps154;go_upto_region 2 with(fail);go_region_law (first|(refine jv kB rfl (.tmp 18) (.tmp 22) rfl D a bs.length c (bs.map B) rfl (Can.drew (hcw.out.can.alloc _)) (some ⟨w.heap.size,0,none⟩) 1 1 [B x] rfl rfl (Row.drew (Row.new _ _ _ _)) (by intro u hu;simp at hu;subst hu;rfl) o_ (by simp;omega) d_ ?_;intro a2 c2 w2 fG hg2 iX hown2;have hst:=Cw.step (ns:=[x]) hcw.out ((b_.alloc n_ _).drew) hD fG hg2 iX (ik hown2) (nZ hown2);have q0:=hst.1.cell (j:=0) rfl;have z0:=hst.1.cu (j:=0) (show 0<3 by decide);have HST:=h_ hst.2;clear hst fG hg2 iX hown2))
 all_goals
  clear q0 z0;go_wp2_with fail;go_end0;exact⟨a2,c2,rfl,HST.1,HST.2⟩
theorem LN{k:Int}(h: -128≤ k∧k< 128):IntKind.u8.wrap k=((mY k).toNat:Int):=by
 unfold mY;rw[UInt8.toNat_ofNat',IntKind.wrap_u8];omega
structure ja(g:Nat)(w:World)(a:Option Addr)(xs:List Value):Prop where
 row:Row w a xs
 low:xs≠ []→∀b o s,a=some ⟨b,o,s⟩→b< g
theorem ja.of{g:Nat}{w:World}{a:Option Addr}{xs:List Value}(h:Row w a xs)(hg:w.heap.size≤ g):ja g w a xs:=⟨h,fun h0 b o s e=>by
 rcases h with h|⟨b1,o1,rfl,h1⟩
 ·exact absurd h h0
 ·have:=Row.lt (.inr ⟨b1,o1,rfl,h1⟩) h0
  simp only[Option.some.injEq,Addr.mk.injEq]at e;omega⟩
theorem ja.block{g:Nat}{w w':World}{a:Option Addr}{xs:List Value}(h:ja g w a xs)(hk:∀k,k<g→ k<w.heap.size→ w'.heap[k]? =w.heap[k]?):ja g w' a xs:=⟨by
 by_cases h0:xs= []
 ·exact .inl h0
 ·rcases h.row with h1|⟨b,o,rfl,hc⟩
  ·exact absurd h1 h0
  ·have hlt:=Row.lt (.inr ⟨b,o,rfl,hc⟩) h0
   exact .inr ⟨b,o,rfl,fun i hi=>by rw[World.cell?_of_block (w:=w) (hk b (h.low h0 b o none rfl) hlt)];exact hc i hi⟩,h.low⟩
theorem ja.below{g:Nat}{w w':World}{a:Option Addr}{xs:List Value}(h:ja g w a xs)(hb:Below w.heap.size w w'):ja g w' a xs:=h.block fun k _ hk=>hb.block k hk
theorem ja.yh{D g c:Nat}{w w':World}{a a' ad:Option Addr}{bs:List UInt8}{xs:List Value}(h:ja g w ad xs)(hc:Cw w D g a c bs)(hg:kR g a a' w w'):ja g w' ad xs:=
 h.block fun k hk hs=>hg.bY k hs o_ (fun o s e=>by have:=hc.lY _ _ _ e;have:=hc.low;omega)
theorem kR.pre{g:Nat}{a a':Option Addr}{w W w':World}(h:kR g a a' W w')(hb:Below w.heap.size w W):kR g a a' w w':=
 ⟨h.os.trans hb.os,h.tape.trans hb.tape,h.output.trans hb.output,Nat.le_trans hb.size h.size,fun k hk hg ha=>by rw[h.bY k (Nat.lt_of_lt_of_le hk hb.size) hg ha,hb.block k hk],h.eZ.mono hb.size⟩
theorem kR.next{g:Nat}{a a':Option Addr}{w w' w'':World}(h:kR g a a' w w')(hb:Below w'.heap.size w' w''):kR g a a' w w'':=
 ⟨hb.os.trans h.os,hb.tape.trans h.tape,hb.output.trans h.output,Nat.le_trans h.size hb.size,fun k hk hg ha=>by rw[hb.block k (Nat.lt_of_lt_of_le hk h.size),h.bY k hk hg ha],h.eZ⟩
theorem Vf(D g gx ox c:Nat)(a:Option Addr)(bs:List UInt8)(k0:Int)(w:World)(h:Cw w D g a c bs)(hD:D≤ w.heap.size)(hx:w.cell? ⟨gx,ox,none⟩=some (.int .i8 k0))(hz:w.frozen? ⟨gx,ox,none⟩=false)(FN: -128≤ k0∧k0< 128)(hgx:gx≠ g)(pz:∀o s,a≠some ⟨gx,o,s⟩)(hn:bs.length≤ 10000000):
 Calls Tryz.prog 108 #[.pointer (some ⟨g,0,none⟩),.pointer (some ⟨gx,ox,none⟩)] w (uC w D g a (bs++[mY k0])):=by
 have hgl:=World.block_lt_of_cell? w _ hx;obtain⟨W,hW⟩:∃W,W=w.alloc (.cells #[.int .u8 (k0%256)] 5):=⟨_,rfl⟩;have hB:Below w.heap.size w W:=by rw[hW];exact b_.alloc n_ _
 have hT:aU W w.heap.size [.int .u8 (k0%256)]:=by rw[hW];exact aU.aR b_
 have hkb:Value.int .u8 (k0%256)=B (mY k0):=by rw[B,←LN FN,IntKind.wrap_u8]
 have hks:IntKind.i8.wrap (k0%256)=k0:= by simp[IntKind.wrap,IntKind.bits,IntKind.signed];split<;>omega
 have HS:Hid (Calls Tryz.prog 154 #[.pointer (some ⟨g,0,none⟩),.pointer (some ⟨w.heap.size,0,none⟩)] W (uC W D g a (bs++[mY k0]))):=Kc D g w.heap.size 0 c a bs (mY k0) W (h.below hB) (Nat.le_trans hD hB.size) (by rw[←hkb];exact hT.cell (j:=0) rfl) h.new.1 h.new.2 o_;have HC:=h_ h;have HB:=h_ hB;have HT:=h_ hT;have HN:=h_ h.new;have HK:=h_ hks;have HO:=h_ (And.intro hgx pz);have LH:=(hB.cell (p:=⟨gx,ox,none⟩) hgl).trans hx;have uR:=(hB.frozen (p:=⟨gx,ox,none⟩) hgl).trans hz;have HX:=h_ (And.intro LH uR);have VV:=h_ hgl;clear h hB hT hkb hks hgx pz LH uR;rw[hW]at HS;have HW:=h_ hW;clear hW;go_enter Tryz.func108,Tryz.ntmps108;go_wp2_with(go_at_call 154;((with_reducible refine HS.out.mono ?_);rw[←HW.out];rintro e w1 ⟨a1,c1,rfl,lO,jd⟩;have y0:=(HT.yh (by simp) jd HN.1 HN.2).cell (j:=0) rfl;have y1:=oN jd HX.1 HO.1 HO.2;have hbl:=jd.bY gx (by have:=HB.size;have:=VV.out;omega) HO.1 HO.2;have y2:w1.frozen? ⟨gx,ox,none⟩=false:= (by have h2:=HX.2;simp only[World.frozen?]at h2 ⊢;rw[hbl];exact h2);have eK:=h_ lO;have uv:=h_ (jd.pre HB.out);clear lO jd hbl));rw[HK.out,ud y1];go_end0;exact⟨a1,c1,rfl,eK.out,uv.out⟩
theorem Sg(D g gx ox c:Nat)(a:Option Addr)(bs:List UInt8)(x:Bool)(w:World)(h:Cw w D g a c bs)(hD:D≤ w.heap.size)(hx:w.cell? ⟨gx,ox,none⟩=some (.bool x))(hz:w.frozen? ⟨gx,ox,none⟩=false)(hgx:gx≠ g)(pz:∀o s,a≠some ⟨gx,o,s⟩)(hn:bs.length≤ 10000000):
 Calls Tryz.prog 110 #[.pointer (some ⟨g,0,none⟩),.pointer (some ⟨gx,ox,none⟩)] w (uC w D g a (bs++[iH x])):=by
 have hgl:=World.block_lt_of_cell? w _ hx;obtain⟨W,hW⟩:∃W,W=w.alloc (.cells #[.int .u8 (if x then 1 else 0)] 5):=⟨_,rfl⟩;have hB:Below w.heap.size w W:=by rw[hW];exact b_.alloc n_ _
 have hT:aU W w.heap.size [B (iH x)]:=by
  rw[hW];cases x
  ·exact aU.aR b_
  ·exact aU.aR b_
 have HS:Hid (Calls Tryz.prog 154 #[.pointer (some ⟨g,0,none⟩),.pointer (some ⟨w.heap.size,0,none⟩)] W (uC W D g a (bs++[iH x]))):=Kc D g w.heap.size 0 c a bs (iH x) W (h.below hB) (Nat.le_trans hD hB.size) (hT.cell (j:=0) rfl) h.new.1 h.new.2 o_;have HC:=h_ h;have HB:=h_ hB;have HT:=h_ hT;have HN:=h_ h.new;have HO:=h_ (And.intro hgx pz);have LH:=(hB.cell (p:=⟨gx,ox,none⟩) hgl).trans hx;have uR:=(hB.frozen (p:=⟨gx,ox,none⟩) hgl).trans hz;have HX:=h_ (And.intro LH uR);have VV:=h_ hgl;clear h hB hT hgx pz LH uR;rw[hW]at HS;have HW:=h_ hW;clear hW;cases x
 all_goals
  simp only[if_true,Bool.false_eq_true,if_false]at HS HW;go_enter Tryz.func110,Tryz.ntmps110;go_wp2_with(go_at_call 154;((with_reducible refine HS.out.mono ?_);rw[←HW.out];rintro e w1 ⟨a1,c1,rfl,lO,jd⟩;have y0:=(HT.yh (by simp) jd HN.1 HN.2).cell (j:=0) rfl;have y1:=oN jd HX.1 HO.1 HO.2;have hbl:=jd.bY gx (by have:=HB.size;have:=VV.out;omega) HO.1 HO.2;have y2:w1.frozen? ⟨gx,ox,none⟩=false:= (by have h2:=HX.2;simp only[World.frozen?]at h2 ⊢;rw[hbl];exact h2);have eK:=h_ lO;have uv:=h_ (jd.pre HB.out);clear lO jd hbl))
  try rw[show Value.bool (((iH false).toNat:Int)==1)= .bool false from rfl]
  try rw[show Value.bool (((iH true).toNat:Int)==1)= .bool true from rfl]
  rw[ud y1];go_end0;exact⟨a1,c1,rfl,eK.out,uv.out⟩
def CD(w:World)(D g:Nat)(a:Option Addr)(n:Nat)(bs:List UInt8)(e:Ending)(w':World):Prop:= ∃a' c',e= .returned (.int .i64 n)∧Cw w' D g a' c' bs∧kR g a a' w w'
theorem QW(D g c size:Nat)(n:Nat)(a:Option Addr)(bs:List UInt8)(w:World)(h:Cw w D g a c bs)(hD:D≤ w.heap.size)(hn:bs.length≤ 10000000):
 Calls Tryz.prog 156 #[.pointer (some ⟨g,0,none⟩),.int .i64 n,.int .i64 size] w (CD w D g a n (bs++dV n)):=by
 have x0:=h.box.cell (j:=1) rfl;have hgl:=h.box.lt (by simp);obtain⟨W,hW⟩:∃W,W=w.alloc (.cells #[.int .i64 n] 3):=⟨_,rfl⟩;have hB:Below w.heap.size w W:=by rw[hW];exact b_.alloc n_ _
 have hT:aU W w.heap.size [.int .i64 n]:=by rw[hW];exact aU.aR b_
 have HS:Hid (Calls Tryz.prog 109 #[.pointer (some ⟨g,0,none⟩),.pointer (some ⟨w.heap.size,0,none⟩)] W (uC W D g a (bs++dV n))):=Ax D g w.heap.size 0 c a bs n W (h.below hB) (Nat.le_trans hD hB.size) (hT.cell (j:=0) rfl) h.new.1 h.new.2 hn;have HT:=h_ hT;have HN:=h_ h.new;have HB:=h_ hB;clear h hB hT;rw[hW]at HS;have HW:=h_ hW;clear hW;go_enter Tryz.func156,Tryz.ntmps156;go_wp2_with(go_at_call 109;((with_reducible refine HS.out.mono ?_);rw[←HW.out];rintro e w1 ⟨a1,c1,rfl,lO,jd⟩;have y0:=(HT.yh (by simp) jd HN.1 HN.2).cell (j:=0) rfl;have y2:=lO.box.cell (j:=2) rfl;have eK:=h_ lO;have uv:=h_ (jd.pre HB.out);clear lO jd));go_quiet (fail);go_wp2;go_ret;exact⟨a1,c1,rfl,eK.below (below_drewN (Below.refl w1.heap.size w1) nq),uv.next (below_drewN (Below.refl w1.heap.size w1) nq)⟩
theorem GP{P:Program}{w:World}{ops:Array Oper}{o:Oper}{ac:Act}{K:Act→ World→Prop}{Q:Exit→ Act→World→ Prop}{E:Prop}{t e:TypeId}{size bytes:Nat}(el:sG P t e size bytes)(hgd:o.guard= none)(s x:Operand)(ho:o.op= .call {callee:= .builtin .append,args:= #[s,x],argTypes:= #[t,t]})(D:Nat)(a:Option Addr)(n c:Nat)(xs:List Value)(hs:ac.eval s= .slice a n c)(di:Can w D e size a n c xs)(ad:Option Addr)(m k:Nat)(news:List Value)(hx:ac.eval x= .slice ad m k)(hl:news.length= m*size)(hr:Row w ad news)(h1:∀u∈ news,u.oneCell'=true)(hbytes:(n+m)*bytes≤ 140737488355328)(hD:D≤ w.heap.size)(FL:∀b o s,a=some ⟨b,o,s⟩→D≤ b∧b< w.heap.size)(h:∀a' c' w',Can w' D e size a' (n+m) c' (xs++news)→w.grownBy w' (Value.slice a n c).ownBlock→cg w.heap.size a a'→(∀b o s,a'=some ⟨b,o,s⟩→D≤ b)→(∀b o s,a'=some ⟨b,o,s⟩→b< w'.heap.size)→K (ac.put o.dst (.slice a' (n+m) c')) w'):
 if Region.wanted o (yielded ops ac.tmps)=true then Oper.wp P o ac w K Q else E:=by
 have hw:Region.wanted o (yielded ops ac.tmps)=true:= by simp[Region.wanted,hgd]
 rw[if_pos hw];obtain⟨a',c',w',hrun,h2,h3,h4,h5⟩:=vw el o.type D a n c xs di ad m k news hl hr h1 hbytes hD;unfold Oper.wp execOp;simp only[ho,resolve,invoke,builtin,Sem.run_bind,Sem.run_pure,Result.andThen_ok,List.map_toArray,List.map_cons,List.map_nil,hs,hx,hrun];by_cases hm:0< m
 ·have hn:=zH el o.type D a n c xs di ad m k news hl hr h1 hbytes hm hrun;exact h a' c' w' h2 h3 hn (ik (h5.1 hm)) (nZ (h5.1 hm))
 ·obtain⟨rfl,-⟩:=h5.2 o_;exact h a' c' w' h2 h3 (cg.self _ _) (fun b o s e=>(FL b o s e).1) (fun b o s e=>Nat.lt_of_lt_of_le (FL b o s e).2 h3.size)
theorem yY{α β:Type}{X:kQ β}{y:kQ α}{f:α→ Nat→kQ β}{v:α}{q:Nat}(h:X= cy y f)(hy:y= .ok (v,q)):X= f v q:=by rw[h,hy];rfl
theorem vD{α β:Type}{X:kQ β}{y:kQ α}{f:α→ Nat→kQ β}{e:Nat}(h:X= cy y f)(hy:y= .error e):X= .error e:=by rw[h,hy];rfl
structure gz(W w:World)(a:Option Addr)(xs:List Value):Prop where
 row:Row w a xs
 lY:xs≠ []→∀b o s,a=some ⟨b,o,s⟩→W.heap.size≤ b
theorem gz.block{W w w':World}{a:Option Addr}{xs:List Value}(h:gz W w a xs)(hk:∀k,W.heap.size≤k→ k<w.heap.size→ (∀o s,a=some ⟨k,o,s⟩→w'.heap[k]? =w.heap[k]?)):gz W w' a xs:=⟨by
 by_cases h0:xs= []
 ·exact .inl h0
 ·rcases h.row with h1|⟨b,o,rfl,hc⟩
  ·exact absurd h1 h0
  ·have hlt:=Row.lt (.inr ⟨b,o,rfl,hc⟩) h0
   exact .inr ⟨b,o,rfl,fun i hi=>by rw[World.cell?_of_block (w:=w) (hk b (h.lY h0 b o none rfl) hlt o none rfl)];exact hc i hi⟩,h.lY⟩
theorem gz.jl{W w w':World}{g gx:Nat}{a:Option Addr}{xs:List Value}(h:gz W w a xs)(ht:dO g gx w w')(hg:g< W.heap.size)(hx:gx< W.heap.size):gz W w' a xs:=
 h.block fun k h1 h2 _ _ _=>ht.block k h2 o_
theorem gz.below{W w w':World}{a:Option Addr}{xs:List Value}(h:gz W w a xs)(hb:Below w.heap.size w w'):gz W w' a xs:=h.block fun k _ h2 _ _ _=>hb.block k h2
theorem gz.mono{W W' w:World}{a:Option Addr}{xs:List Value}(h:gz W w a xs)(hw:W'.heap.size≤ W.heap.size):gz W' w a xs:=⟨h.row,fun h0 b o s e=>Nat.le_trans hw (h.lY h0 b o s e)⟩
theorem gz.bY{S:Nat→ Prop}{W w w':World}{a:Option Addr}{xs:List Value}(h:gz W w a xs)(hk:dv S w w')(hs:∀k,S k→k< W.heap.size):gz W w' a xs:=h.block fun k h1 h2 _ _ _=>hk.block k h2 (fun e=>by have:=hs k e;omega)
theorem gz.nil(W w:World)(a:Option Addr):gz W w a []:=⟨.inl rfl,fun h=>absurd rfl h⟩
abbrev tF:=Option Addr×Nat
abbrev lM(v:iD)(p:tF):List Value:=(cW v.term v.kind v.ag v.set p.1 v.data.length p.2)
def fw(v:iD)(p:tF):Value:= .agg (cW v.term v.kind v.ag v.set p.1 v.data.length p.2)
structure pD(W w:World)(v:iD)(p:tF):Prop where
 row:gz W w p.1 (v.data.map B)
 le:v.data.length≤ p.2
theorem pD.bY{S:Nat→ Prop}{W w w':World}{v:iD}{p:tF}(h:pD W w v p)(hk:dv S w w')(hs:∀k,S k→k< W.heap.size):pD W w' v p:=⟨h.row.bY hk hs,h.le⟩
theorem pD.mono{W W' w:World}{v:iD}{p:tF}(h:pD W w v p)(hw:W'.heap.size≤ W.heap.size):pD W' w v p:=⟨h.row.mono hw,h.le⟩
theorem pD.below{W w w':World}{v:iD}{p:tF}(h:pD W w v p)(hb:Below w.heap.size w w'):pD W w' v p:=⟨h.row.below hb,h.le⟩
theorem ja.up{g g':Nat}{w W:World}{a:Option Addr}{xs:List Value}(h:ja g w a xs)(hg:g≤ g')(hb:Below w.heap.size w W):ja g' W a xs:=⟨(h.below hb).row,fun h0 b o s e=>by have:=h.low h0 b o s e;omega⟩
structure H7(g:Nat)(w:World)(v:iD)(p:tF):Prop where
 row:ja g w p.1 (v.data.map B)
theorem H7.up{g g':Nat}{w W:World}{v:iD}{p:tF}(h:H7 g w v p)(hg:g≤ g')(hb:Below w.heap.size w W):H7 g' W v p:=⟨h.row.up hg hb⟩
theorem List.vB{α:Type}{l:List α}{i:Nat}{v:α}(h:l[i]? =some v):l.set i v=l:= by
 obtain⟨h1,h2⟩:=List.getElem?_eq_some_iff.1 h;subst h2;exact List.set_getElem_self h1
structure Ls(w w':World)(g gx ox:Nat)(a:Option Addr)(c:Nat)(bs:List UInt8)(q:Nat)(cs:List Value)(T:TypeId)(size:Nat)(a1:Option Addr)(n c1:Nat)(xs:List Value):Prop where
 cr:Cr w' g a c bs q
 jl:dO g gx w w'
 box:aU w' gx (cs.set ox (.slice a1 n c1))
 can:Can w' w.heap.size T size a1 n c1 xs
 lY:∀b o s,a1=some ⟨b,o,s⟩→w.heap.size≤ b∧b< w'.heap.size
 gl:g< w.heap.size
 xl:gx< w.heap.size
 off:Bl g (jU a bs) gx
 ox:ox< cs.length
theorem Ls.one{w wr w2:World}{o:Obj}{g gx ox c q q' T size n c1:Nat}{a a1:Option Addr}{bs:List UInt8}{cs xs:List Value}(h:Ls w wr g gx ox a c bs q cs T size a1 n c1 xs)(ht:dO g wr.heap.size (wr.alloc o) w2)(hc:Cr w2 g a c bs q'):Ls w w2 g gx ox a c bs q' cs T size a1 n c1 xs:=by
 have hs:=h.jl.size;have hg:=h.gl;have hx:=h.xl;have hsz:(wr.alloc o).heap.size=wr.heap.size+ 1:=by simp
 have hts:=ht.size
 have hm:cx w.heap.size wr.heap.size wr w2:=⟨by omega,fun k h1 h2=>by
  rw[ht.block k o_ o_]
  exact heap_alloc_old _ _ h2⟩
 refine⟨hc,?_,?_,nD h.can hm (fun b o s e=> .inl (h.lY b o s e).1) n_ n_,fun b o s e=>⟨(h.lY b o s e).1,by have:=(h.lY b o s e).2;omega⟩,hg,hx,h.off,h.ox⟩
 ·exact dv.trans (h.jl.next (dO.below (ah b_))) (ht.mono fun k _ e=>by rcases e with e|e| e;exact .inl e;exact .inr (.inr o_);exact .inr (.inr o_))
 ·have h1:aU (wr.alloc o) gx (cs.set ox (.slice a1 n c1)):=h.box.next (by rw[List.length_set];have:=h.ox;omega) (ah b_);exact h1.bY (by rw[List.length_set];have:=h.ox;omega) ht (by have:=h.off.ne;omega)
theorem Ls.push{w w2 W0 w3:World}{g gx ox c q T size n c1 c2:Nat}{a a1 a2:Option Addr}{bs:List UInt8}{cs xs ns:List Value}(h:Ls w w2 g gx ox a c bs q cs T size a1 n c1 xs)(hb:Below w2.heap.size w2 W0)(di:Can w3 w.heap.size T size a2 (n+1) c2 (xs++ns))(hg:W0.grownBy w3 (Value.slice a1 n c1).ownBlock)(hown:∀b o s,a2=some ⟨b,o,s⟩→w.heap.size≤ b)(hlt:∀b o s,a2=some ⟨b,o,s⟩→b< w3.heap.size):
 Ls w (w3.setCell ⟨gx,ox,none⟩ (.slice a2 (n+1) c2)) g gx ox a c bs q cs T size a2 (n+1) c2 (xs++ns)∧aU w3 gx (cs.set ox (.slice a1 n c1))∧(∀k,k<w2.heap.size→ (∀o s,a1≠some ⟨k,o,s⟩)→w3.heap[k]? =w2.heap[k]?):=by
 have hs:=h.jl.size;have hgl:=h.gl;have hx:=h.xl;have ow:∀k,(∀o s,a1≠some ⟨k,o,s⟩)→some k≠(Value.slice a1 n c1).ownBlock:=fun k hk e=>by
  cases a1 with
  |none=> simp[Value.ownBlock]at e
  |some ad=>
   obtain⟨y,u,v⟩:=ad;simp[Value.ownBlock]at e;subst e;exact hk u v rfl
 have FP:∀k,k<w2.heap.size→ (∀o s,a1≠some ⟨k,o,s⟩)→w3.heap[k]? =w2.heap[k]?:=fun k hk hne=>by
  rw[hg.block k (Nat.lt_of_lt_of_le hk hb.size) (ow k hne),hb.block k hk]
 have hks:dv (fun k=>w.heap.size≤ k) w2 w3:=⟨hg.os.trans hb.os,hg.tape.trans hb.tape,hg.output.trans hb.output,Nat.le_trans hb.size hg.size,fun k hk hn=>FP k hk (fun o s e=>hn (h.lY k o s e).1)⟩;have hlen:0< (cs.set ox (.slice a1 n c1)).length:=by rw[List.length_set];have:=h.ox;omega
 have fI:aU w3 gx (cs.set ox (.slice a1 n c1)):=h.box.bY hlen hks o_;have Yv:∀k,w.heap.size≤k→ Bl g (jU a bs) k:=fun k hk=>⟨by omega,fun o s e=>by have:=h.cr.low k o s e;omega⟩
 have sM:=fI.set (i:=ox) (by rw[List.length_set];exact h.ox) (.slice a2 (n+1) c2);rw[List.set_set]at sM;refine⟨⟨(h.cr.bY hks Yv).bY ((dv.refl (fun k=>k= gx) _).set _ _ rfl) (fun k e=>by subst e;exact h.off),?_,sM,?_,fun b o s e=>⟨hown b o s e,by have:=hlt b o s e;simpa using this⟩,hgl,hx,h.off,h.ox⟩,fI,FP⟩
 ·exact(dv.trans h.jl (hks.mono fun k _ e=> .inr (.inr e))).set _ _ (.inr (.inl rfl))
 ·exact nD di ((cx.refl w.heap.size w3.heap.size w3).setCell ⟨gx,ox,none⟩ _ (.inl hx)) (fun b o s e=> .inl (hown b o s e)) n_ n_
abbrev fD(x:Int):List Value:=[.int .i64 x]
theorem NU:sG Tryz.prog 52 3 1 8 where
 under:=Tryz.underlying52
 info:=by
  have h:(Tryz.prog.info? 3).map (fun i=>(i.zero.map fun z=>(z.cells.size,z.cells.all (·.oneCell')),i.size,i.bytes))=some (some (1,true),1,8):=k_;cases hi:Tryz.prog.info? 3 with
  |none=> rw[hi]at h;cases h
  |some i=>
   rw[hi,Option.map_some]at h;cases hz:i.zero with
   |none=> rw[hz]at h;simp at h
   |some z=>
    rw[hz]at h;simp at h;exact⟨i,z,rfl,hz,h.2.1,h.2.2,h.1.1⟩
 pos:=d_
 oJ:=d_
def KE(w0:World)(gx ox:Nat)(cs:List Value)(xs:List Int)(w':World):Prop:= ∃(a':Option Addr) (c':Nat),aU w' gx (cs.set ox (.slice a' xs.length c'))∧gz w0 w' a' (xs.flatMap fD)∧xs.length≤ c'
theorem LO(g c p gx ox:Nat)(a:Option Addr)(bs:List UInt8)(cs:List Value)(w:World)(h:Cr w g a c bs p)(hl:bs.length≤ 2000000)(hx:aU w gx cs)(hgx:Bl g (jU a bs) gx)(uQ:ox< cs.length)(hv:cs[ox]? =some (.slice none 0 0)):
 Calls Tryz.prog 111 #[.pointer (some ⟨g,0,none⟩),.pointer (some ⟨gx,ox,none⟩),.int .i64 8,.func (.func 109) #[.pointer (some ⟨g,0,none⟩)] #[]] w (Nw w g gx cs.length a c bs (rH 8 fX bs p) (KE w gx ox cs)):=by
 have x0:=hx.cell hv;have hxl:=hx.lt o_;have hgl:=h.box.lt (by simp);have ZF:Hid (Calls Tryz.prog 156 #[.pointer (some ⟨g,0,none⟩),.int .i64 0,.int .i64 8] w (E6 w g a c bs (countP 8 bs p))):=QV g c p 8 0 a bs w h hl o_ o_;have HX:=h_ hx;have HE:=h_ (And.intro hxl hgl);have HV:=h_ hv;clear h hx hv;go_enter Tryz.func111,Tryz.ntmps111;go_wp2_with(go_at_call 156;((with_reducible refine ZF.out.mono ?_);rintro e w1 ⟨ht,⟨n,q,hr,rfl,hc⟩|⟨f,hr,rfl⟩⟩<;>have uA:=h_ (dO.of' (gx:=gx) ht)<;>have iO:=h_ (HX.bY o_ ht (by have:=HE.1;have:=hgx.ne;omega))<;>have HR:=h_ hr<;>clear ht hr;all_goals(first|(have x1:=iO.cell (List.getElem?_eq_getElem uQ);have z1:=iO.cu uQ;have r2:=hc.box.cell (j:=2) rfl;have eK:=h_ hc;clear hc)|skip)))
 ·have x2:=iO.cell HV.out;rw[ud x2];have hid:cs.set ox (.slice none 0 0)=cs:= List.vB HV.out;have HL0:Hid (Ls w w1 g gx ox a c bs q cs 3 1 none 0 0 []):=⟨eK.out,uA.out,by rw[hid];exact iO.out,Can.nil _ _ _ _,(fun _ _ _ h=>by cases h),HE.2,HE.1,hgx,uQ⟩;have hnq:=count_le HR.out;have hnl:n≤ 2000000:=Nat.le_trans hnq (Nat.le_trans (Nat.div_le_self _ _) o_);clear x0 x1 x2 z1 r2 hid iO uA eK hnq;go_loopw [26] (fun i wr=>∃(xs:List Int) (q1:Nat) (a1:Option Addr) (c1:Nat),xs.length≤n∧ i= .int .i64 xs.length∧Hid (Ls w wr g gx ox a c bs q1 cs 3 1 a1 xs.length c1 (xs.flatMap fD))∧Hid (ej fX xs.length bs q= .ok (xs,q1))) (fun i _=>n- (intOf i).toNat)
  case atStart=>exact ⟨[],q,none,0,by simp,rfl,HL0.out,rfl⟩
  case round=>
   obtain⟨xs,q1,a1,c1,hk,rfl,hls,htm⟩:=hrel;by_cases hlt:xs.length< n
   ·have ht':=hls.out.jl.size;have Yu:Bl g (jU a bs) wr.heap.size:=hls.out.cr.new n_;have HON:=h_ (Aw g c q1 wr.heap.size 0 a bs [.int .i64 0] (wr.alloc (.cells #[.int .i64 0] 3)) (hls.out.cr.below (ah b_)) hl (aU.aR b_) Yu (by simp));go_upto_region 7 with((go_at_call 109;((with_reducible refine HON.out.mono ?_);rintro en w4 ⟨ht,⟨v,q4,hr,rfl,hc,hb⟩|⟨f,hr,rfl,hb⟩⟩<;>have qX:=h_ hr<;>clear hr;all_goals(first|(have Cz:=h_ (hls.out.one ht hc);replace hb:aU w4 wr.heap.size [.int .i64 v]:=hb;have y0:=hb.cell (j:=0) rfl;have gm:=h_ hb;have k0:=Cz.box.cell (j:=ox) (by rw[List.getElem?_set_self uQ]);have kz:=Cz.box.cu (j:=ox) (by rw[List.length_set];exact uQ);have ea:gx< w4.heap.size:=Cz.box.lt (by rw[List.length_set];omega);have eb:wr.heap.size< w4.heap.size:=gm.lt (by simp);clear ht hc hb)|(have Cz:=h_ (dv.trans (hls.out.jl.next (dO.below (ah b_))) (ht.mono fun k _ e=>by rcases e with e|e| e;exact .inl e;exact .inr (.inr (by have:=hls.out.jl.size;omega));exact .inr (.inr (by have:=hls.out.jl.size;simp at e;omega))):dO g gx w w4);have og:=h_ ((hls.out.box.next (by rw[List.length_set];omega) (ah b_):aU (wr.alloc (.cells #[.int .i64 0] 3)) gx _).bY (by rw[List.length_set];omega) ht (by have:=hls.out.xl;have:=hgx.ne;simp;omega));clear ht hb)))))
    ·have II:w.heap.size≤ w4.heap.size:=Cz.jl.size;go_region_law (first|(refine GP NU rfl (.tmp 33) (.tmp 35) rfl w.heap.size a1 xs.length c1 (xs.flatMap fD) rfl (Can.drew (Cz.can.alloc _)) (some ⟨w4.heap.size,0,none⟩) 1 1 [.int .i64 v] rfl rfl (Row.drew (Row.new _ _ _ _)) (by intro u hu;simp at hu;rcases hu with rfl<;>rfl) o_ (by simp;omega) (fun b o s e=>⟨(Cz.lY b o s e).1,by have:=(Cz.lY b o s e).2;simp;omega⟩) ?_;intro a2 c2 w5 fG hg2 iX hf2 hl2;have hst:=Cz.push ((b_.alloc n_ _).drew) fG hg2 hf2 hl2;have q0:=hst.2.1.cell (j:=ox) (by rw[List.getElem?_set_self uQ]);have q1z:=hst.2.1.cu (j:=ox) (by rw[List.length_set];exact uQ);have HST:=h_ hst;clear hst fG hg2 iX hf2 hl2))
     all_goals
      clear q0 q1z;go_wp2_with fail;exact⟨⟨xs++[v],q4,a2,c2,by simp;omega,by simp,by(show Ls _ _ _ _ _ _ _ _ _ _ _ _ _ _ _ _);rw[List.length_append,List.flatMap_append,List.flatMap_singleton];exact HST.1,by(show _=_);rw[List.length_append];exact qf htm.out qX.out⟩,by simp[intOf];omega⟩
    ·refine⟨rfl,Cz.out,.inr ⟨_,?_,rfl,.of og.out (by rw[List.length_set])⟩⟩;(show cy _ _=_);rw[HR.out];exact qd htm.out qX.out hlt
   ·have Rk:xs.length= n:=o_;have CA:=h_ Rk;have hd:decide (xs.length<n)=false:= decide_eq_false hlt;clear Rk hlt;go_wp2
    first|go_end0| refine bodyPost_ret (results_none rfl _ _ _) rfl ?_
    refine⟨hls.out.jl,.inl ⟨xs,q1,?_,rfl,hls.out.cr,a1,c1,hls.out.box,⟨hls.out.can.row,fun _ b o s e=>(hls.out.lY b o s e).1⟩,hls.out.can.le⟩⟩;(show cy _ _=_);rw[HR.out,Ff,←CA.out];exact htm.out
 ·exact⟨rfl,uA.out,.inr ⟨_,by(show cy _ _=_);rw[HR.out];rfl,rfl,.of iO.out rfl⟩⟩
theorem LP(D g gx ox c m kk:Nat)(a ad:Option Addr)(bs:List UInt8)(xs:List (Int))(w:World)(h:Cw w D g a c bs)(hD:D≤ w.heap.size)(hx:w.cell? ⟨gx,ox,none⟩=some (.slice ad m kk))(hm:xs.length= m)(hr:ja g w ad (xs.flatMap fD))(hgx:gx≠ g)(pz:∀o s,a≠some ⟨gx,o,s⟩)(hn:bs.length≤ 1500000)(hsz:(xs.flatMap dV).length≤1000000)(hm2:m≤ 1000000):
 Calls Tryz.prog 111 #[.pointer (some ⟨g,0,none⟩),.pointer (some ⟨gx,ox,none⟩),.int .i64 8,.func (.func 109) #[.pointer (some ⟨g,0,none⟩)] #[]] w (uC w D g a (bs++(dV xs.length++xs.flatMap dV))):=by
 have ZF:Hid (Calls Tryz.prog 156 #[.pointer (some ⟨g,0,none⟩),.int .i64 m,.int .i64 8] w (CD w D g a m (bs++dV (m:Int)))):=QW D g c 8 m a bs w h hD o_;have HC:=h_ h;have HX:=h_ (And.intro hx (And.intro hgx pz));have HR:=h_ hr;have HM:=h_ hm;have afN:=World.block_lt_of_cell? w _ hx;have hlb:(bs++dV (m:Int)).length≤1500008:= by rw[List.length_append,gP];omega
 have QD:=h_ (show bs++(dV xs.length++xs.flatMap dV)=(bs++dV (m:Int))++xs.flatMap dV by rw[hm,List.append_assoc]);clear h hgx pz hr hm;generalize bs++dV (m:Int)=l1 at ZF QD hlb;go_enter Tryz.func111,Tryz.ntmps111;go_wp2_with(go_at_call 156;((with_reducible refine ZF.out.mono ?_);rintro e w1 ⟨a1,c1,rfl,lO,jd⟩;have y1:=oN jd HX.1 HX.2.1 HX.2.2;have y2:=lO.box.cell (j:=2) rfl;have eK:=h_ lO;have uv:=h_ jd;clear lO jd));clear y1 y2;go_loopw [43] (fun i wr=>∃(k:Nat) (a3:Option Addr) (c3:Nat),k≤m∧ i= .int .i64 k∧Hid (Cw wr D g a3 c3 (l1++(xs.take k).flatMap dV))∧Hid (kR g a a3 w wr)) (fun i _=>m- (intOf i).toNat)
 case atStart=>exact ⟨0,a1,c1,by omega,rfl,by show Cw _ _ _ _ _ _;simpa using eK.out,uv.out⟩
 case round=>
  obtain⟨k,a3,c3,hk,rfl,hcw,hgr⟩:=hrel;by_cases hlt:k< m
  ·have Ta:k< xs.length:=by rw[HM.out];exact hlt
   have II:D≤ wr.heap.size:=Nat.le_trans hD hgr.out.size;have y1:=oN hgr.out HX.1 HX.2.1 HX.2.2;have hrow:=HR.yh HC.out hgr.out;have HT:=h_ (show l1++(xs.take (k+1)).flatMap dV=(l1++(xs.take k).flatMap dV)++dV (xs[k]'Ta) by rw[List.take_succ_eq_append_getElem Ta,List.flatMap_append,List.flatMap_singleton,List.append_assoc]);have hll:(l1++(xs.take k).flatMap dV).length≤2600000:= by
    have h1:xs.flatMap dV=(xs.take k).flatMap dV++(xs.drop k).flatMap dV:=by rw[←List.flatMap_append,List.take_append_drop]
    have h2:=congrArg List.length h1;rw[List.length_append]at h2;rw[List.length_append];omega
   obtain⟨b,o,rfl,hcell⟩:=Row.at hrow.row (k:=k* 1) (by rw[kg (cells:=fD) (size:=1) (fun _=>rfl)];have:=Nat.mul_lt_mul_of_pos_right Ta (show 0<1 by decide);omega);have hce:∀r,r<1→ wr.cell? ⟨b,o+k* 1+r,none⟩=(fD (xs[k]'Ta))[r]?:=fun r hr=>by
    have h1:=lh (cells:=fD) (size:=1) (fun _=>rfl) (xs:=xs) (i:=k) hr;rw[List.getElem?_eq_getElem Ta,Option.bind_some]at h1;have h2:k* 1+r< (xs.flatMap fD).length:=by
     rw[kg (cells:=fD) (size:=1) (fun _=>rfl)]
     first|(simp only[Nat.mul_one];omega)|(have:=Nat.mul_le_mul_right 1 (Nat.succ_le_of_lt Ta);rw[Nat.succ_mul]at this;omega)
    have h3:=hcell (k*1+ r) h2;rw[Nat.add_assoc,h3,←h1,List.getElem?_eq_getElem h2]
   generalize xs[k]'Ta=v0 at HT hce;have q0:=hce 0 d_;rw[show(fD v0)[0]? =some (.int .i64 v0)from rfl]at q0;simp only[Nat.mul_one,Nat.add_zero]at q0;clear hce hcell hrow Ta;have HON:=h_ (Ax D g wr.heap.size 0 c3 a3 (l1++(xs.take k).flatMap dV) v0 (wr.alloc (.cells #[.int .i64 v0] 3)) (hcw.out.below (ah b_)) (by simp;omega) ((aU.aR (cs:=[.int .i64 v0]) b_).cell (j:=0) rfl) hcw.out.new.1 hcw.out.new.2 o_);go_wp2_with(go_at_call 109;((with_reducible refine HON.out.mono ?_);rintro en w4 ⟨a4,c4,rfl,Od,Oi⟩;have Bi:=h_ Od;have MR:=h_ (Oi.pre (ah b_));clear Od Oi));exact⟨⟨k+1,a4,c4,by omega,by go_num,by show Cw _ _ _ _ _ _;rw[HT.out];exact Bi.out,hgr.out.trans MR.out⟩,by simp[intOf];omega⟩
  ·obtain rfl:k= m:=o_;have hd:decide (k<k)=false:= decide_eq_false o_;go_wp2
   first|go_end0| refine bodyPost_ret (results_none rfl _ _ _) rfl ?_
   refine⟨a3,c3,rfl,?_,hgr.out⟩;rw[QD.out];have h:=hcw.out;rw[List.take_of_length_le (by rw[HM.out];exact Nat.le_refl _)]at h;exact h
end Go.Proofs.YtfdmhpohfjbpfaaGreat
