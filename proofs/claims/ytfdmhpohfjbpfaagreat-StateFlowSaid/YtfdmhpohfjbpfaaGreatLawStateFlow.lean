/- StateFlow holds: for every argument the law answers true, and its arguments read afterwards as before. No condition. -/
import Derived.Test.YtfdmhpohfjbpfaaGreatSqLawSFlow
set_option linter.unusedVariables false
set_option linter.unusedSimpArgs false
namespace Go.Proofs.YtfdmhpohfjbpfaaGreat
open Go.ChangeShapes Go.WideShapes Go.ChangeAt Go.RowKit
set_option maxRecDepth 100000
set_option maxRecDepth 100000 in
theorem stateFlow_lifted (os:Os) (started:os.Started) (H:Type) (enc:TypeId× Value→H):
 ReturnsInHanded {} Tryz.checked os 6 .any (Rows.stateFlowSpec.pre6 enc Tryz.prog Tryz.f6 Rows.stateFlowRow.domain false) (Rows.stateFlowSpec.post enc Tryz.prog Tryz.f6 false true false false):=by
 refine law_lifted (C:=Tryz.checked) own started (by kernel_rfl) Tryz.func6
  (ChangeSpec.witness6 (enc:=enc) (C:=Tryz.checked) false ⟨#[],#[.agg #[.int .i64 0,.int .i64 0,.int .i64 0,.slice none 0 0,.slice none 0 0,.slice none 0 0,.slice none 0 0],.slice none 0 0,.int .i64 0],[]⟩ 8 (by kernel_rfl) (by kernel_rfl) (by kernel_rfl) (by kernel_rfl))
  rfl rfl Tryz.underlying4 laidOut (by kernel_rfl) ?_ ?_
 ·intro ds h
  rw[Tryz.params6]at h
  match ds,h with
  |[d1,d2,d3],_=>rfl
 ·intro W vs h
  rw[Tryz.params6]at h
  obtain⟨v0,vs0,rfl,h0,r0⟩:=h
  obtain⟨v1,vs1,rfl,h1,r1⟩:=r0
  obtain⟨v2,vs2,rfl,h2,r2⟩:=r1
  obtain rfl:=r2
  obtain⟨cs0,rfl,q0⟩:=h0.struct Tryz.underlying27
  obtain⟨raw0,st0,rfl,at0,it0,is0,ix0,u0,v0,x0,y0⟩:=open_stateB q0
  obtain⟨a1,len1,cap1,rfl,q1⟩:=h1.slice Tryz.underlying28
  obtain⟨l1,n1,m1,g1,w1⟩:=open_ents q1
  obtain⟨a2,rfl,wf2⟩:=h2.int Tryz.underlying3
  exact law_sflow st0 raw0 l1 a1 len1 cap1 a2 W at0 is0 u0 v0 x0 y0 n1 m1 g1 w1 wf2
theorem stateFlow_proved:Rows.StateFlowSaid:=
 OpenClaim.holds_of_wide 6 Tryz.f6 rfl rfl rfl rfl rfl rfl rfl ⟨rfl,rfl,rfl,rfl,rfl⟩ rfl rfl rfl rfl rfl (by kernel_rfl) Tryz.func6 (by kernel_rfl)
  (of_decide_eq_true (by kernel_rfl)) (by unfold Func.isWrapper;first|(rw[if_pos (by decide+kernel)];kernel_rfl)|(rw[if_neg (by decide+kernel)];exact⟨rfl,rfl⟩))
  (fun os started H enc _=>stateFlow_lifted os started H enc)
#print axioms stateFlow_proved
end Go.Proofs.YtfdmhpohfjbpfaaGreat
