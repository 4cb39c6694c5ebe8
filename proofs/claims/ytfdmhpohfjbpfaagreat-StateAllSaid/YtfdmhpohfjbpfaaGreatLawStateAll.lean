/- StateAll holds: for every argument the law answers true, and its arguments read afterwards as before. No condition. -/
import Derived.Test.YtfdmhpohfjbpfaaGreatSrLawSAll
set_option linter.unusedVariables false
set_option linter.unusedSimpArgs false
namespace Go.Proofs.YtfdmhpohfjbpfaaGreat
open Go.ChangeShapes Go.WideShapes Go.ChangeAt Go.RowKit
set_option maxRecDepth 100000
set_option maxHeartbeats 16000000
set_option maxRecDepth 100000 in
theorem yx(os:Os)(started:os.Started)(H:Type)(enc:TypeId× Value→H):
 ReturnsInHanded {} Tryz.checked os 3 .any (Rows.stateAllSpec.pre6 enc Tryz.prog Tryz.f3 Rows.stateAllRow.domain false) (Rows.stateAllSpec.post enc Tryz.prog Tryz.f3 false true false false):=by
 refine I9 (C:=Tryz.checked) own started k_ Tryz.func3
  (ChangeSpec.witness6 (enc:=enc) (C:=Tryz.checked) false ⟨#[],#[.agg aS,.slice none 0 0],[]⟩ 8 k_ k_ k_ k_)
  rfl rfl Tryz.underlying4 laidOut k_ ?_ ?_
 ·intro ds h
  rw[Tryz.params3]at h
  match ds,h with
  |[d1,d2],_=>rfl
 ·intro W vs h
  rw[Tryz.params3]at h
  obtain⟨v0,vs0,rfl,h0,r0⟩:=h
  obtain⟨v1,vs1,rfl,h1,r1⟩:=r0
  obtain rfl:=r1
  obtain⟨cs0,rfl,q0⟩:=h0.struct Tryz.underlying27
  obtain⟨acX,st0,rfl,at0,it0,is0,ix0,u0,v0,x0,y0⟩:=Gr q0
  obtain⟨a1,acO,abz,rfl,q1⟩:=h1.slice Tryz.underlying28
  obtain⟨l1,n1,m1,g1,w1⟩:=LY q1
  exact OQ st0 acX l1 a1 acO abz W at0 is0 u0 v0 x0 y0 n1 m1 g1 w1
theorem stateAll_proved:Rows.StateAllSaid:=
 OpenClaim.holds_of_wide 3 Tryz.f3 rfl rfl rfl rfl rfl rfl rfl ⟨rfl,rfl,rfl,rfl,rfl⟩ rfl rfl rfl rfl rfl k_ Tryz.func3 k_
  (of_decide_eq_true k_) (by unfold Func.isWrapper;first|(rw[if_pos (by decide+kernel)];kernel_rfl)|(rw[if_neg (by decide+kernel)];exact⟨rfl,rfl⟩))
  (fun os started H enc _=>yx os started H enc)
#print axioms stateAll_proved
end Go.Proofs.YtfdmhpohfjbpfaaGreat
