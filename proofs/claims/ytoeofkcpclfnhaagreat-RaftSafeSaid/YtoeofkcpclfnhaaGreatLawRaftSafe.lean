/- RaftSafe holds: for every argument the law answers true, and its arguments read afterwards as before. No condition. -/
import Derived.Test.YtoeofkcpclfnhaaGreatSrNdRaft
set_option linter.unusedVariables false
set_option linter.unusedSimpArgs false
namespace Go.Proofs.YtoeofkcpclfnhaaGreat
open Go.ChangeShapes Go.WideShapes Go.ChangeAt Go.RowKit
set_option maxRecDepth 100000
set_option maxHeartbeats 16000000
set_option maxRecDepth 100000 in
theorem raftSafe_lifted(os:Os)(started:os.Started)(H:Type)(enc:TypeId× Value→H):
 ReturnsInHanded {} Tryz.checked os 3 .any (Rows.raftSafeSpec.pre6 enc Tryz.prog Tryz.f3 Rows.raftSafeRow.domain false) (Rows.raftSafeSpec.post enc Tryz.prog Tryz.f3 false true false false):=by
 refine law_lifted (C:=Tryz.checked) own started k_ Tryz.func3
  (ChangeSpec.witness6 (enc:=enc) (C:=Tryz.checked) false ⟨#[],#[.slice none 0 0],[]⟩ 8 k_ k_ k_ k_)
  rfl rfl Tryz.underlying4 laidOut k_ ?_ ?_
 ·intro ds h
  rw[Tryz.params3]at h
  match ds,h with
  |[d1],_=>rfl
 ·intro W vs h
  rw[Tryz.params3]at h
  obtain⟨v0,vs0,rfl,h0,r0⟩:=h
  obtain rfl:=r0
  obtain⟨a0,len0,cap0,rfl,q0⟩:=h0.slice Tryz.underlying22
  obtain⟨l0,n0,m0,k0,x0,w0⟩:=open_nacts q0
  exact law_raft l0 a0 len0 cap0 W n0 (Nat.le_trans m0 k0) w0
theorem raftSafe_proved:Rows.RaftSafeSaid:=
 OpenClaim.holds_of_wide 3 Tryz.f3 rfl rfl rfl rfl rfl rfl rfl ⟨rfl,rfl,rfl,rfl,rfl⟩ rfl rfl rfl rfl rfl k_ Tryz.func3 k_
  (of_decide_eq_true k_) (by unfold Func.isWrapper;first|(rw[if_pos (by decide+kernel)];kernel_rfl)|(rw[if_neg (by decide+kernel)];exact⟨rfl,rfl⟩))
  (fun os started H enc _=>raftSafe_lifted os started H enc)
#print axioms raftSafe_proved
end Go.Proofs.YtoeofkcpclfnhaaGreat
