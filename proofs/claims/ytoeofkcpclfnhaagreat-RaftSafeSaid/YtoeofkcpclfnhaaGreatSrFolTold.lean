import Derived.Test.YtoeofkcpclfnhaaGreatSr07
set_option linter.unusedVariables false
set_option linter.unusedSimpArgs false
namespace Go.Proofs.YtoeofkcpclfnhaaGreat
open Go.ChangeShapes Go.WideShapes Go.ChangeAt Go.RowKit
set_option maxRecDepth 100000
set_option maxHeartbeats 16000000
def cl(lo hi n:Int):Int:= min (max n lo) hi
def toldF(p:Prg)(ok:Bool)(index:Int):Prg:=
 if ok then⟨p.node,max (cl 0 1099511627776 p.mat) (cl 0 1099511627776 index),max (cl 1 1099511627777 p.next) (max (cl 0 1099511627776 p.mat) (cl 0 1099511627776 index)+1)⟩
 else⟨p.node,cl 0 1099511627776 p.mat,max (min (cl 1 1099511627777 p.next-1) (cl 0 1099511627776 index+1)) (cl 0 1099511627776 p.mat+1)⟩
theorem cl_low{lo hi n:Int}(h:n< lo)(h2:lo≤ hi):cl lo hi n=lo:= by unfold cl;omega
theorem cl_high{lo hi n:Int}(h:hi< n)(h2:lo≤ hi):cl lo hi n=hi:= by unfold cl;omega
theorem cl_in{lo hi n:Int}(h:lo≤ n)(h2:n≤ hi):cl lo hi n=n:= by unfold cl;omega
theorem cl_bd{lo hi n:Int}(h2:lo≤ hi):lo≤ cl lo hi n∧cl lo hi n≤hi:= by unfold cl;omega
def RetPrg(w:World)(r:Prg)(e:Ending)(w':World):Prop:= e= .returned r.agg∧Below w.heap.size w w'
def OutW(T:TypeId)(w:World)(a b c:Int):World:= (w.alloc (.cells #[.int .i64 a,.int .i64 b,.int .i64 c] T)).alloc (.cells #[.int .i64 0,.int .i64 0,.int .i64 0] T)
theorem outW_below(T:TypeId)(w:World)(a b c:Int):Below w.heap.size w (OutW T w a b c):=mid_alloc' (mid_alloc' b_)
theorem ret_prg{w w':World}{r:Prg}{a b c:Int}(h0:r.node= a)(h1:r.mat= b)(h2:r.next= c)(hb:Below w.heap.size w w'):RetPrg w r (.returned (.agg #[.int .i64 a,.int .i64 b,.int .i64 c])) w':=by
 subst h0 h1 h2;exact⟨rfl,hb⟩
theorem tq16 {P:Prop}(h:P:=by
 subst ev;by_cases cn0:p2< 1
 ·skip;have an:decide (p2<1)=true:= decide_eq_true o_;have bn:decide ((1099511627777:Int)<(1:Int))=false:= decide_eq_false o_;have ev:=HN.symm.trans (cl_low (lo:=1) (hi:=1099511627777) (n:=p2) o_ d_);subst ev;go_region
  all_goals(go_wp2_with fail;go_meet;exact⟨rfl,rfl⟩)
 by_cases cn1:1099511627777< p2
 ·skip;have an:decide (p2<1)=false:= decide_eq_false o_;have bn:decide ((1099511627777:Int)<p2)=true:= decide_eq_true o_;have ev:=HN.symm.trans (cl_high (lo:=1) (hi:=1099511627777) (n:=p2) o_ d_);subst ev;go_region
  all_goals(go_wp2_with fail;go_meet;exact⟨rfl,rfl⟩)
 have an:decide (p2<1)=false:= decide_eq_false o_;have bn:decide ((1099511627777:Int)<p2)=false:= decide_eq_false o_;have ev:=HN.symm.trans (cl_in (lo:=1) (hi:=1099511627777) (n:=p2) o_ o_);subst ev;go_region
 all_goals(go_wp2_with fail;go_meet;exact⟨rfl,rfl⟩)):P:=h
theorem tq17 {P:Prop}(h:P:=by
 subst ev;by_cases cm0:p1< 0
 ·skip;have am:decide (p1<0)=true:= decide_eq_true o_;have bm:decide ((1099511627776:Int)<(0:Int))=false:= decide_eq_false o_;have ev:=HM.symm.trans (cl_low (lo:=0) (hi:=1099511627776) (n:=p1) o_ d_);exact tq16
 by_cases cm1:1099511627776< p1
 ·skip;have am:decide (p1<0)=false:= decide_eq_false o_;have bm:decide ((1099511627776:Int)<p1)=true:= decide_eq_true o_;have ev:=HM.symm.trans (cl_high (lo:=0) (hi:=1099511627776) (n:=p1) o_ d_);exact tq16
 have am:decide (p1<0)=false:= decide_eq_false o_;have bm:decide ((1099511627776:Int)<p1)=false:= decide_eq_false o_;have ev:=HM.symm.trans (cl_in (lo:=0) (hi:=1099511627776) (n:=p1) o_ o_)
 exact tq16):P:=h
theorem told_any(p:Prg)(ok:Bool)(index:Int)(w:World):Calls Tryz.prog 65 #[p.agg,.bool ok,.int .i64 index] w (RetPrg w (toldF p ok index)):=by
 obtain⟨p0,p1,p2⟩:=p;have⟨u1,u2⟩:=cl_bd (lo:=0) (hi:=1099511627776) (n:=index) d_;have⟨u3,u4⟩:=cl_bd (lo:=0) (hi:=1099511627776) (n:=p1) d_;have⟨u5,u6⟩:=cl_bd (lo:=1) (hi:=1099511627777) (n:=p2) d_;obtain⟨i,hi⟩:∃i,cl 0 1099511627776 index=i:= ⟨_,rfl⟩;obtain⟨m,hm⟩:∃m,cl 0 1099511627776 p1=m:= ⟨_,rfl⟩;obtain⟨n,hn⟩:∃n,cl 1 1099511627777 p2=n:= ⟨_,rfl⟩;have HR:Hid (toldF ⟨p0,p1,p2⟩ ok index=if ok then⟨p0,max m i,max n (max m i+1)⟩else⟨p0,m,max (min (n-1) (i+1)) (m+1)⟩):=by show _=_;unfold toldF;simp only[hi,hm,hn]
 generalize toldF ⟨p0,p1,p2⟩ ok index=r at HR ⊢;rw[hi]at u1 u2;rw[hm]at u3 u4;rw[hn]at u5 u6;have HI:=h_ hi;have HM:=h_ hm;have HN:=h_ hn;clear hi hm hn;have HO:=h_ (outW_below 116 w p0 m n);go_enter Tryz.func65,Tryz.ntmps65;go_upto_region 1 with fail;go_cut [2]from 7 (fun v wx=>v= .int .i64 i∧wx= ((w.alloc (.cells #[.int .i64 p0,.int .i64 m,.int .i64 n] 116)).alloc (.cells #[.int .i64 0,.int .i64 0,.int .i64 0] 116)).drew)
 case first=>
  by_cases ci0:index< 0
  ·skip;have ai:decide (index<0)=true:= decide_eq_true o_;have bi:decide ((1099511627776:Int)<(0:Int))=false:= decide_eq_false o_;have ev:=HI.symm.trans (cl_low (lo:=0) (hi:=1099511627776) (n:=index) o_ d_);exact tq17
  by_cases ci1:1099511627776< index
  ·skip;have ai:decide (index<0)=false:= decide_eq_false o_;have bi:decide ((1099511627776:Int)<index)=true:= decide_eq_true o_;have ev:=HI.symm.trans (cl_high (lo:=0) (hi:=1099511627776) (n:=index) o_ d_);exact tq17
  have ai:decide (index<0)=false:= decide_eq_false o_;have bi:decide ((1099511627776:Int)<index)=false:= decide_eq_false o_;have ev:=HI.symm.trans (cl_in (lo:=0) (hi:=1099511627776) (n:=index) o_ o_);exact tq17
 obtain⟨rfl,rfl⟩:=hcut;clear HI HM HN;cases ok
 all_goals
  go_wp2_with fail
  all_goals(go_returns;exact ret_prg (by rw[HR.out];rfl) (by rw[HR.out];simp;try omega) (by rw[HR.out];simp;try omega) (mid_alloc' (mid_alloc' (by first|exact Below.refl _ _|exact b_.drew))))
end Go.Proofs.YtoeofkcpclfnhaaGreat
