import Derived.Test.YtfdmhpohfjbpfaaGreatSq16
set_option linter.unusedVariables false
set_option linter.unusedSimpArgs false
namespace Go.Proofs.YtfdmhpohfjbpfaaGreat
open Go.ChangeShapes Go.WideShapes Go.ChangeAt Go.RowKit
set_option maxRecDepth 100000
theorem atTen' {w:World} {a:Option Addr} {ts:List Tenant} (h:LRow layTen w a ts) {k:Nat} (hk:k< ts.length):∃b o,a=some ⟨b,o,none⟩∧∀w',Below w.heap.size w w'→
 w'.cell? ⟨b,o+k* 5,none⟩=some (.int .i64 ts[k].id)∧w'.cell? ⟨b,o+k* 5+1,none⟩=some (.int .i64 ts[k].rate)∧w'.cell? ⟨b,o+k* 5+2,none⟩=some (.int .i64 ts[k].burst)∧
 w'.cell? ⟨b,o+k* 5+3,none⟩=some (.int .i64 ts[k].bucket)∧w'.cell? ⟨b,o+k* 5+4,none⟩=some (.bool ts[k].gone):=TRow.at h hk
set_option maxHeartbeats 8000000 in
theorem same_sta (s:St) (r q:Raw) (B B':Nat) (w:World) (h:StAt w B r s) (h':StAt w B' q s) (hl1:s.tens.length≤ 900) (hl2:s.leas.length≤ 900) (hl3:s.sess.length≤ 900) (hl4:s.dsks.length≤ 900):
 Calls Tryz.prog 25 #[r.agg,q.agg] w fun e w'=>e= .returned (.bool true)∧Below w.heap.size w w':=by
 obtain⟨term,stamp,next,⟨a1,n1,c1⟩,⟨a2,n2,c2⟩,⟨a3,n3,c3⟩,⟨a4,n4,c4⟩⟩:=r
 obtain⟨term',stamp',next',⟨b1,m1,d1⟩,⟨b2,m2,d2⟩,⟨b3,m3,d3⟩,⟨b4,m4,d4⟩⟩:=q
 have e1:term= term':=h.term.trans h'.term.symm
 have e2:stamp= stamp':=h.stamp.trans h'.stamp.symm
 have e3:next= next':=h.next.trans h'.next.symm
 subst e1 e2 e3
 obtain rfl:s.tens.length= n1:=h.ten.len
 obtain rfl:s.leas.length= n2:=h.lea.len
 obtain rfl:s.sess.length= n3:=h.ses.len
 obtain rfl:s.dsks.length= n4:=h.dsk.len
 obtain rfl:s.tens.length= m1:=h'.ten.len
 obtain rfl:s.leas.length= m2:=h'.lea.len
 obtain rfl:s.sess.length= m3:=h'.ses.len
 obtain rfl:s.dsks.length= m4:=h'.dsk.len
 have RT:=Lib.hid (And.intro h.ten.row h'.ten.row)
 have RL:=Lib.hid (And.intro h.lea.row h'.lea.row)
 have RS:=Lib.hid (And.intro h.ses.row h'.ses.row)
 have RD:=Lib.hid (And.intro h.dsk.row h'.dsk.row)
 have NT:=Lib.hid tneq_run
 have NL:=Lib.hid neqLea_run
 have NS:=Lib.hid neqSes_run
 have ND:=Lib.hid neqDsk_run
 clear h h'
 have HBX:Hid (∀w',Below (w.heap.size+2) ((w.alloc (.cells #[.int .i64 term,.int .i64 stamp,.int .i64 next,.slice a1 s.tens.length c1,.slice a2 s.leas.length c2,.slice a3 s.sess.length c3,.slice a4 s.dsks.length c4] 27)).alloc (.cells #[.int .i64 term,.int .i64 stamp,.int .i64 next,.slice b1 s.tens.length d1,.slice b2 s.leas.length d2,.slice b3 s.sess.length d3,.slice b4 s.dsks.length d4] 27)) w'→Box w' w.heap.size (Raw.cells ⟨term,stamp,next,⟨a1,s.tens.length,c1⟩,⟨a2,s.leas.length,c2⟩,⟨a3,s.sess.length,c3⟩,⟨a4,s.dsks.length,c4⟩⟩)∧Box w' (w.heap.size+1) (Raw.cells ⟨term,stamp,next,⟨b1,s.tens.length,d1⟩,⟨b2,s.leas.length,d2⟩,⟨b3,s.sess.length,d3⟩,⟨b4,s.dsks.length,d4⟩⟩)):=fun w' hb0=>by
  have e:((w.alloc (.cells #[.int .i64 term,.int .i64 stamp,.int .i64 next,.slice a1 s.tens.length c1,.slice a2 s.leas.length c2,.slice a3 s.sess.length c3,.slice a4 s.dsks.length c4] 27)).alloc (.cells #[.int .i64 term,.int .i64 stamp,.int .i64 next,.slice b1 s.tens.length d1,.slice b2 s.leas.length d2,.slice b3 s.sess.length d3,.slice b4 s.dsks.length d4] 27)).heap.size=w.heap.size+ 2:=by simp
  rw[←e]at hb0
  exact⟨Box.of_alloc (mid_alloc' hb0),Box.of_alloc1 hb0⟩
 have hbw:Below w.heap.size w ((w.alloc (.cells #[.int .i64 term,.int .i64 stamp,.int .i64 next,.slice a1 s.tens.length c1,.slice a2 s.leas.length c2,.slice a3 s.sess.length c3,.slice a4 s.dsks.length c4] 27)).alloc (.cells #[.int .i64 term,.int .i64 stamp,.int .i64 next,.slice b1 s.tens.length d1,.slice b2 s.leas.length d2,.slice b3 s.sess.length d3,.slice b4 s.dsks.length d4] 27)):=belo
 have BW:=Lib.hid hbw
 clear hbw
 go_enter Tryz.func25,Tryz.ntmps25
 go_wp2
 go_loopw [5] (fun i wr=>∃k: Nat,k≤s.tens.length∧ i= .int .i64 k∧Below (w.heap.size+2) ((w.alloc (.cells #[.int .i64 term,.int .i64 stamp,.int .i64 next,.slice a1 s.tens.length c1,.slice a2 s.leas.length c2,.slice a3 s.sess.length c3,.slice a4 s.dsks.length c4] 27)).alloc (.cells #[.int .i64 term,.int .i64 stamp,.int .i64 next,.slice b1 s.tens.length d1,.slice b2 s.leas.length d2,.slice b3 s.sess.length d3,.slice b4 s.dsks.length d4] 27)) wr) (fun i _=>s.tens.length- (intOf i).toNat)
 case atStart=>exact ⟨0,by omega,rfl,Below.refl _ _⟩
 case round=>
  obtain⟨k,hk,rfl,hb0⟩:=hrel
  have hb:Below w.heap.size w wr:=BW.out.trans (hb0.mono (by omega))
  have HB0:=Lib.hid hb0
  obtain⟨hxa,hxb⟩:=HBX.out wr hb0
  have p3:=hxa.cell (j:=3) rfl
  have q3:=hxb.cell (j:=3) rfl
  clear hxa hxb
  by_cases hlt:k< s.tens.length
  ·obtain⟨b,o,ha,hcs⟩:=atTen' RT.out.1 hlt
   obtain⟨b',o',ha',hcs'⟩:=atTen' RT.out.2 hlt
   subst ha
   subst ha'
   have hx:=hcs _ hb
   have hy:=hcs' _ hb
   have hneq:=fun w=>NT.out s.tens[k] s.tens[k] w
   rw[decide_eq_true rfl]at hneq
   generalize s.tens[k]=x at hx hy hneq
   clear hcs hcs'
   go_wp2
   go_quiet (fail)
   go_wp2
   go_roundw
   case rel=>exact ⟨k+1,by omega,by go_num,below_drewN HB0.out _⟩
   case measure=>simp [intOf];omega
  ·obtain rfl:k= s.tens.length:=by omega
   skip
   go_wp2
   go_loopw [6] (fun i wr=>∃k: Nat,k≤s.leas.length∧ i= .int .i64 k∧Below (w.heap.size+2) ((w.alloc (.cells #[.int .i64 term,.int .i64 stamp,.int .i64 next,.slice a1 s.tens.length c1,.slice a2 s.leas.length c2,.slice a3 s.sess.length c3,.slice a4 s.dsks.length c4] 27)).alloc (.cells #[.int .i64 term,.int .i64 stamp,.int .i64 next,.slice b1 s.tens.length d1,.slice b2 s.leas.length d2,.slice b3 s.sess.length d3,.slice b4 s.dsks.length d4] 27)) wr) (fun i _=>s.leas.length- (intOf i).toNat)
   case atStart=>exact ⟨0,by omega,rfl,HB0.out⟩
   case round=>
    obtain⟨k,hk,rfl,hb0⟩:=hrel
    have hb:Below w.heap.size w wr:=BW.out.trans (hb0.mono (by omega))
    have HB0:=Lib.hid hb0
    obtain⟨hxa,hxb⟩:=HBX.out wr hb0
    have p4:=hxa.cell (j:=4) rfl
    have q4:=hxb.cell (j:=4) rfl
    clear hxa hxb
    by_cases hlt:k< s.leas.length
    ·obtain⟨b,o,ha,hcs⟩:=atLea RL.out.1 hlt
     obtain⟨b',o',ha',hcs'⟩:=atLea RL.out.2 hlt
     subst ha
     subst ha'
     have hx:=hcs _ hb
     have hy:=hcs' _ hb
     have hneq:=fun w=>NL.out s.leas[k] s.leas[k] w
     rw[decide_eq_true rfl]at hneq
     generalize s.leas[k]=x at hx hy hneq
     clear hcs hcs'
     go_wp2
     go_quiet (fail)
     go_wp2
     go_roundw
     case rel=>exact ⟨k+1,by omega,by go_num,below_drewN HB0.out _⟩
     case measure=>simp [intOf];omega
    ·obtain rfl:k= s.leas.length:=by omega
     skip
     go_wp2
     go_loopw [7] (fun i wr=>∃k: Nat,k≤s.sess.length∧ i= .int .i64 k∧Below (w.heap.size+2) ((w.alloc (.cells #[.int .i64 term,.int .i64 stamp,.int .i64 next,.slice a1 s.tens.length c1,.slice a2 s.leas.length c2,.slice a3 s.sess.length c3,.slice a4 s.dsks.length c4] 27)).alloc (.cells #[.int .i64 term,.int .i64 stamp,.int .i64 next,.slice b1 s.tens.length d1,.slice b2 s.leas.length d2,.slice b3 s.sess.length d3,.slice b4 s.dsks.length d4] 27)) wr) (fun i _=>s.sess.length- (intOf i).toNat)
     case atStart=>exact ⟨0,by omega,rfl,HB0.out⟩
     case round=>
      obtain⟨k,hk,rfl,hb0⟩:=hrel
      have hb:Below w.heap.size w wr:=BW.out.trans (hb0.mono (by omega))
      have HB0:=Lib.hid hb0
      obtain⟨hxa,hxb⟩:=HBX.out wr hb0
      have p5:=hxa.cell (j:=5) rfl
      have q5:=hxb.cell (j:=5) rfl
      clear hxa hxb
      by_cases hlt:k< s.sess.length
      ·obtain⟨b,o,ha,hcs⟩:=atSes RS.out.1 hlt
       obtain⟨b',o',ha',hcs'⟩:=atSes RS.out.2 hlt
       subst ha
       subst ha'
       have hx:=hcs _ hb
       have hy:=hcs' _ hb
       have hneq:=fun w=>NS.out s.sess[k] s.sess[k] w
       rw[decide_eq_true rfl]at hneq
       generalize s.sess[k]=x at hx hy hneq
       clear hcs hcs'
       go_wp2
       go_quiet (fail)
       go_wp2
       go_roundw
       case rel=>exact ⟨k+1,by omega,by go_num,below_drewN HB0.out _⟩
       case measure=>simp [intOf];omega
      ·obtain rfl:k= s.sess.length:=by omega
       skip
       go_wp2
       go_loopw [8] (fun i wr=>∃k: Nat,k≤s.dsks.length∧ i= .int .i64 k∧Below (w.heap.size+2) ((w.alloc (.cells #[.int .i64 term,.int .i64 stamp,.int .i64 next,.slice a1 s.tens.length c1,.slice a2 s.leas.length c2,.slice a3 s.sess.length c3,.slice a4 s.dsks.length c4] 27)).alloc (.cells #[.int .i64 term,.int .i64 stamp,.int .i64 next,.slice b1 s.tens.length d1,.slice b2 s.leas.length d2,.slice b3 s.sess.length d3,.slice b4 s.dsks.length d4] 27)) wr) (fun i _=>s.dsks.length- (intOf i).toNat)
       case atStart=>exact ⟨0,by omega,rfl,HB0.out⟩
       case round=>
        obtain⟨k,hk,rfl,hb0⟩:=hrel
        have hb:Below w.heap.size w wr:=BW.out.trans (hb0.mono (by omega))
        have HB0:=Lib.hid hb0
        obtain⟨hxa,hxb⟩:=HBX.out wr hb0
        have p6:=hxa.cell (j:=6) rfl
        have q6:=hxb.cell (j:=6) rfl
        clear hxa hxb
        by_cases hlt:k< s.dsks.length
        ·obtain⟨b,o,ha,hcs⟩:=atDsk RD.out.1 hlt
         obtain⟨b',o',ha',hcs'⟩:=atDsk RD.out.2 hlt
         subst ha
         subst ha'
         have hx:=hcs _ hb
         have hy:=hcs' _ hb
         have hneq:=fun w=>ND.out s.dsks[k] s.dsks[k] w
         rw[decide_eq_true rfl]at hneq
         generalize s.dsks[k]=x at hx hy hneq
         clear hcs hcs'
         go_wp2
         go_quiet (fail)
         go_wp2
         go_roundw
         case rel=>exact ⟨k+1,by omega,by go_num,below_drewN HB0.out _⟩
         case measure=>simp [intOf];omega
        ·obtain rfl:k= s.dsks.length:=by omega
         skip
         go_wp2
         go_returns
         exact⟨rfl,hb⟩
theorem same_sta19 (s:St) (r q:Raw) (B B':Nat) (w:World) (h:StAt w B r s) (h':StAt w B' q s) (hl1:s.tens.length≤ 900) (hl2:s.leas.length≤ 900) (hl3:s.sess.length≤ 900) (hl4:s.dsks.length≤ 900):
 Calls Tryz.prog 13 #[r.agg,q.agg] w fun e w'=>e= .returned (.bool true)∧Below w.heap.size w w':=by
 have HS:=Lib.hid (fun w' (hb:Below w.heap.size w w')=>same_sta s r q B B' w' (h.below hb) (h'.below hb) hl1 hl2 hl3 hl4)
 obtain⟨term,stamp,next,⟨a1,n1,c1⟩,⟨a2,n2,c2⟩,⟨a3,n3,c3⟩,⟨a4,n4,c4⟩⟩:=r
 obtain⟨term',stamp',next',⟨b1,m1,d1⟩,⟨b2,m2,d2⟩,⟨b3,m3,d3⟩,⟨b4,m4,d4⟩⟩:=q
 clear h h'
 go_enter Tryz.func13,Tryz.ntmps13
 go_wp2_with(go_at_call 25;((with_reducible refine(HS.out _ belo).mono ?_);rintro e w3 ⟨rfl,hb3⟩))
 go_returns
 exact⟨rfl,belo⟩
end Go.Proofs.YtfdmhpohfjbpfaaGreat
