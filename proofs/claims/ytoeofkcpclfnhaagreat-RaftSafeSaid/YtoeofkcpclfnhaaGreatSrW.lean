import Derived.Test.YtoeofkcpclfnhaaGreatRows
import Derived.WalkKit
import Derived.ProofKit
import Derived.Below
import Derived.Lib.Hide
import Derived.Handy
set_option linter.unusedVariables false
set_option linter.unusedSimpArgs false
namespace Go.Proofs.YtoeofkcpclfnhaaGreat
open Go
theorem h_{P:Prop}(h:P):RowKit.Hid P:=Lib.hid h
theorem o_{P:Prop}(h:P:=by omega):P:=h
theorem k_{P:Prop}(h:P:=by kernel_rfl):P:=h
theorem d_{P:Prop}(h:P:=by decide):P:=h
theorem n_{n:Nat}:n≤ n:=Nat.le_refl n
theorem b_{w:World}{n:Nat}:RowKit.Below n w w:=RowKit.Below.refl n w
inductive Tk|mk
abbrev B(x:UInt8):Value:=.int .u8 (x.toNat:Int)
end Go.Proofs.YtoeofkcpclfnhaaGreat
