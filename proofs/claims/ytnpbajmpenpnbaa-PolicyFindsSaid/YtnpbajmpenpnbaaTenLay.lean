import Derived.Test.YtnpbajmpenpnbaaLay
import Derived.Test.YtnpbajmpenpnbaaTen
namespace Go.Proofs.Ytnpbajmpenpnbaa
open Go.ChangeShapes Go.WideShapes Go.ChangeAt Go.RowKit

def layTen : Lay Try.prog 38 Tenant := Lay.struct Tenant.cells 5 40 (fun _ => rfl) (by decide) (by decide) (fun x u hu => by simp at hu; rcases hu with h | h | h | h | h <;> subst h <;> rfl) (by kernel_rfl) _ Try.underlying38 rfl
end Go.Proofs.Ytnpbajmpenpnbaa
