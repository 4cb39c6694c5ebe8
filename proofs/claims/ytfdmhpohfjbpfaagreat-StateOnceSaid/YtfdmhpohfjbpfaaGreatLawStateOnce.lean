/- StateOnce holds: for every argument the law answers true, and its arguments read afterwards as before. No condition. -/
import Derived.Test.YtfdmhpohfjbpfaaGreatSqLawSOnce
set_option linter.unusedVariables false
set_option linter.unusedSimpArgs false
namespace Go.Proofs.YtfdmhpohfjbpfaaGreat
open Go.ChangeShapes Go.WideShapes Go.ChangeAt Go.RowKit
set_option maxRecDepth 100000
set_option maxRecDepth 100000 in
theorem stateOnce_lifted (os:Os) (started:os.Started) (H:Type) (enc:TypeId× Value→H):
 ReturnsInHanded {} Tryz.checked os 5 .any (Rows.stateOnceSpec.pre6 enc Tryz.prog Tryz.f5 Rows.stateOnceRow.domain false) (Rows.stateOnceSpec.post enc Tryz.prog Tryz.f5 false true false false):=by
 refine law_lifted (C:=Tryz.checked) own started (by kernel_rfl) Tryz.func5
  (ChangeSpec.witness6 (enc:=enc) (C:=Tryz.checked) false ⟨#[],#[.agg #[.int .i64 0,.int .i64 0,.int .i64 0,.slice none 0 0,.slice none 0 0,.slice none 0 0,.slice none 0 0],.agg #[.int .i64 0,.int .i8 0,.int .i64 0,.int .u8 0,.slice none 0 0]],[]⟩ 8 (by kernel_rfl) (by kernel_rfl) (by kernel_rfl) (by kernel_rfl))
  rfl rfl Tryz.underlying4 laidOut (by kernel_rfl) ?_ ?_
 ·intro ds h
  rw[Tryz.params5]at h
  match ds,h with
  |[d1,d2],_=>rfl
 ·intro W vs h
  rw[Tryz.params5]at h
  obtain⟨v0,vs0,rfl,h0,r0⟩:=h
  obtain⟨v1,vs1,rfl,h1,r1⟩:=r0
  obtain rfl:=r1
  obtain⟨cs0,rfl,q0⟩:=h0.struct Tryz.underlying27
  obtain⟨raw0,st0,rfl,at0,it0,is0,ix0,u0,v0,x0,y0⟩:=open_stateB q0
  obtain⟨cs1,rfl,q1⟩:=h1.struct Tryz.underlying45
  obtain⟨en1,rfl,g1⟩:=open_rwl q1
  exact law_sonce st0 raw0 en1.1 en1.2 W at0 is0 u0 v0 x0 y0 g1
theorem stateOnce_proved:Rows.StateOnceSaid:=
 OpenClaim.holds_of_wide 5 Tryz.f5 rfl rfl rfl rfl rfl rfl rfl ⟨rfl,rfl,rfl,rfl,rfl⟩ rfl rfl rfl rfl rfl (by kernel_rfl) Tryz.func5 (by kernel_rfl)
  (of_decide_eq_true (by kernel_rfl)) (by unfold Func.isWrapper;first|(rw[if_pos (by decide+kernel)];kernel_rfl)|(rw[if_neg (by decide+kernel)];exact⟨rfl,rfl⟩))
  (fun os started H enc _=>stateOnce_lifted os started H enc)
#print axioms stateOnce_proved
end Go.Proofs.YtfdmhpohfjbpfaaGreat
