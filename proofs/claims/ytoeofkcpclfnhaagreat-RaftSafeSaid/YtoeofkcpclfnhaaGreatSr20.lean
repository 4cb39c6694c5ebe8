import Derived.Test.YtoeofkcpclfnhaaGreatSrNdRPut4
import Derived.Test.YtoeofkcpclfnhaaGreatSrNdRPut5
set_option linter.unusedVariables false
set_option linter.unusedSimpArgs false
namespace Go.Proofs.YtoeofkcpclfnhaaGreat
open Go.ChangeShapes Go.WideShapes Go.ChangeAt Go.RowKit
set_option maxRecDepth 100000
set_option maxHeartbeats 16000000
def RetPR(U:Nat→ Prop)(w:World)(r:List WEnt×Int× Bool×Int)(en:Ending)(w':World):Prop:= ∃(a:Option Addr) (k c:Nat),en= .returned (.tuple #[.agg #[.int .i64 0,.int .i64 0,.slice a k c],.int .i64 r.2.1,.bool r.2.2.1,.int .i64 r.2.2.2])∧(r.2.2.1=true→ ∃fs: List RwE,k=fs.length∧ ents fs=r.1∧ EntsAt U w' a c fs)∧Below w.heap.size w w'
theorem rput_any(U:Nat→ Prop)(es ls:List RwE)(ra:Option Addr)(n rc:Nat)(i t:Int)(a:Option Addr)(m c:Nat)(w:World)(hU:Old U w)(hn:es.length= n)(hm:ls.length= m)(h4:n≤ 4000)(hl2:m≤ 1000000)(hc:ra= none→rc= 0)(hnc:n≤ rc)(hrc:rc≤ maxLen)(hac:m≤ c)(hcm:c≤ maxLen)(hes:∀y∈ es,GoodY w y)(hls:∀y∈ ls,GoodY w y)(hr:Row w ra (es.flatMap cellsRw))(hr2:Row w a (ls.flatMap cellsRw))(hok:okR 0 0 (ents es)=true):
 Calls Tryz.prog 62 #[.agg #[.int .i64 0,.int .i64 0,.slice ra n rc],.int .i64 i,.int .i64 t,.slice a m c] w (RetPR U w (Raf.putR (ents es) i t (ents ls))):=by
 have hl:n≤ 4096:=o_;have hlm:(ents ls).length=m:= by rw[ents_len,hm]
 have hlen:(ents es).length=n:= by rw[ents_len,hn]
 have NO:∀(er:Int) en w',RetPn w er en w'→Raf.putR (ents es) i t (ents ls)=([],0,false,er)→RetPR U w (Raf.putR (ents es) i t (ents ls)) en w':=fun er en w' h e1=>by
  rw[e1];exact⟨none,0,0,h.1,fun h5=>(by cases h5),h.2⟩
 by_cases hb:m≤ 16
 ·rcases hoki:okR i t (ents ls)with _|_
  ·exact(rput_bad es ls ra n rc i t a m c w hn hm hl hl2 hc hnc hrc hac hcm hes hls hr hr2 hok hb hoki).mono fun en w' h=>NO 2 en w' h (by unfold Raf.putR;rw[if_pos (.inr hoki)])
  ·have hno:¬(16<(ents ls).length∨okR i t (ents ls)=false):=by rw[hlm,hoki];intro h;rcases h with h|h;omega;cases h
   by_cases hfar:(n:Int)<i
   ·refine(rput_far es ls ra n rc i t a m c w hn hm hl hl2 hc hnc hrc hac hcm hes hls hr hr2 hok hb hoki hfar).mono fun en w' h=> ?_
    obtain⟨a1,k1,c1,h1,h2⟩:=h;rw[show Raf.putR (ents es) i t (ents ls)=(ents es,(n:Int),false,0) by unfold Raf.putR;rw[if_neg hno,hlen,if_pos hfar]];exact⟨a1,k1,c1,h1,fun h5=>(by cases h5),h2⟩
   ·by_cases hterm:termR 0 0 (ents es) i=t
    ·have hp:Raf.putR (ents es) i t (ents ls)=if okR 0 0 (Raf.mergeF (ents es) i.toNat (ents ls))=true then(Raf.mergeF (ents es) i.toNat (ents ls),i+(m:Int),true,0)else([],0,false,90):=by
      unfold Raf.putR;rw[if_neg hno,hlen,if_neg hfar,if_neg (fun h=>h hterm),hlm]
     have OK:∀en w',okR 0 0 (Raf.mergeF (ents es) i.toNat (ents ls))=true→ RetPo U w (Raf.mergeF (ents es) i.toNat (ents ls)) (i+m) en w'→RetPR U w (Raf.putR (ents es) i t (ents ls)) en w':=fun en w' hmg h=>by
      rw[hp,if_pos hmg];obtain⟨a1,c1,fs,h1,h2,h3,h4⟩:=h;exact⟨a1,fs.length,c1,h1,fun _=>⟨fs,rfl,h2,h3⟩,h4⟩
     rcases Nat.eq_zero_or_pos m with h0|h0
     ·rcases hmg:okR 0 0 (Raf.mergeF (ents es) i.toNat (ents ls))with _|_
      ·exact(rput_none_bad U w hU es ls ra n rc i t a m c hn hm hl hl2 hc hnc hrc hac hcm hes hls hr hr2 hok hb hoki o_ hterm h0 hmg).mono fun en w' h=>NO 90 en w' h (by rw[hp,hmg];rfl)
      ·exact(rput_none_ok U w hU es ls ra n rc i t a m c hn hm hl hl2 hc hnc hrc hac hcm hes hls hr hr2 hok hb hoki o_ hterm h0 hmg).mono fun en w' h=>OK en w' hmg h
     ·obtain⟨bb,oo,rfl⟩:∃bb oo,a=some ⟨bb,oo,none⟩:=by
       obtain⟨bb,oo,h5,-⟩:=entAt hr2 (show 0<ls.length by omega);exact⟨bb,oo,h5⟩
      rcases hmg:okR 0 0 (Raf.mergeF (ents es) i.toNat (ents ls))with _|_
      ·exact(rput_some_bad U w hU es ls ra n rc i t bb oo m c hn hm hl hl2 hc hnc hrc hac hcm hes hls hr hr2 hok hb hoki o_ hterm h0 h4 hmg).mono fun en w' h=>NO 90 en w' h (by rw[hp,hmg];rfl)
      ·exact(rput_some_ok U w hU es ls ra n rc i t bb oo m c hn hm hl hl2 hc hnc hrc hac hcm hes hls hr hr2 hok hb hoki o_ hterm h0 h4 hmg).mono fun en w' h=>OK en w' hmg h
    ·refine(rput_term es ls ra n rc i t a m c w hn hm hl hl2 hc hnc hrc hac hcm hes hls hr hr2 hok hb hoki o_ hterm).mono fun en w' h=> ?_
     obtain⟨a1,k1,c1,h1,h2⟩:=h;rw[show Raf.putR (ents es) i t (ents ls)=(ents es,max (i-1) 0,false,0) by unfold Raf.putR;rw[if_neg hno,hlen,if_neg hfar,if_pos hterm]];exact⟨a1,k1,c1,h1,fun h5=>(by cases h5),h2⟩
 ·exact(rput_long es ls ra n rc i t a m c w hn hm hl hl2 hc hnc hrc hac hcm hes hls hr hr2 hok o_).mono fun en w' h=>NO 2 en w' h (by unfold Raf.putR;rw[if_pos (.inl (by rw[hlm];omega))])
def RetOwnE(w:World)(xs:List RwE)(e:Ending)(w':World):Prop:=
 ∃a c,e= .returned (.slice a xs.length c)∧Near w.heap.size none a∧Can w' w.heap.size 79 (layRw).size a xs.length c (xs.flatMap (layRw).cells)∧
  (0<xs.length→ w'.ownsRow w.heap.size 79 (layRw).size (.slice a xs.length c) xs.length (xs.flatMap (layRw).cells))∧(∀b o s,a=some ⟨b,o,s⟩→b< w'.heap.size)∧Below w.heap.size w w'
theorem cloneE(xs:List RwE)(a:Option Addr)(n c:Nat)(w:World)(hn:xs.length= n)(hby:n* (layRw).bytes≤140737488355328)(hm:n≤ maxLen)(hc:a= none→c= 0)(hnc:n≤ c)(hr:LRow layRw w a xs):
 Calls Tryz.prog 91 #[.slice a n c] w (RetOwnE w xs):=by
 subst hn;cases a with
 |none=>
  obtain rfl:=hc rfl;have h0:xs.length= 0:=o_;obtain rfl:xs= []:=List.eq_nil_of_length_eq_zero h0;go_enter Tryz.func91,Tryz.ntmps91;have hnil:=Lib.run_eql_slice_nil (P:=Tryz.prog) w 31 79 none 0 0 0 0 Tryz.underlying31;go_wp2;go_returns;exact⟨none,0,rfl,Near.nil _ _,Can.nil _ _ _ _,fun h=>absurd h (by simp),fun _ _ _ h=>(by cases h),Below.refl _ _⟩
 |some x=>
  have HR:=h_ hr;clear hr;go_enter Tryz.func91,Tryz.ntmps91;have hnil:=Lib.run_eql_slice_nil (P:=Tryz.prog) w 31 79 (some x) xs.length c 0 0 Tryz.underlying31;go_wp2_with(at_builtin;refine wpList_can ((layRw).elem Tryz.underlying31) rfl _ _ rfl w.heap.size _ 0 _ _ rfl (Can.empty _ _ _ _ _) _ xs.length _ (xs.flatMap (layRw).cells) rfl ((layRw).length _) (Row.alloc HR.out _) ((layRw).ones _) (by rw[Nat.zero_add];exact hby) (by simp) ?_;intro a' c' w3 hcan3 _ hb3 hown);go_returns;rw[Nat.zero_add,List.nil_append]at hcan3 hown;have hnear:Near w.heap.size none a':=by
   by_cases h0:0< xs.length
   ·exact Near.own (hown.1 h0) n_
   ·rw[(hown.2 o_).1];intro b o s hb;simp at hb;exact .inl o_
  have hblt:∀b o s,a'=some ⟨b,o,s⟩→b< w3.heap.size:=fun b o s hab=>by
   by_cases h0:0< xs.length
   ·exact((hown.1 h0).lt b (by rw[hab];rfl)).2
   ·have h1:=hb3.size;rw[(hown.2 o_).1]at hab;simp at hab h1;omega
  exact⟨a',c',rfl,hnear,hcan3,fun h=>hown.1 h,hblt,(b_.alloc n_ _).trans hb3⟩
end Go.Proofs.YtoeofkcpclfnhaaGreat
