import Derived.Deep.CutBlock
import Derived.Test.YtfdmhpohfjbpfaaGreatSqWirRefReadCmd
import Derived.Test.YtfdmhpohfjbpfaaGreatSqStaWakes
import Derived.Test.YtfdmhpohfjbpfaaGreatSqStaSame
set_option linter.unusedVariables false
set_option linter.unusedSimpArgs false
namespace Go.Proofs.YtfdmhpohfjbpfaaGreat
open Go.ChangeShapes Go.WideShapes Go.ChangeAt Go.RowKit
set_option maxRecDepth 100000
theorem ents_in {w w':World} {es:List RwE} (hes:∀y∈ es,RowB w y.2.1 y.1.data∧y.1.data.length≤ y.2.2∧y.1.data.length≤ 1000000000000000∧InI y.1.stamp) (h:sumD es≤8000) (hb:Below w.heap.size w w'):∀y∈ es,EntIn19 w' y:=fun y hy=>⟨(hes y hy).1.below hb,(hes y hy).2.1,Nat.le_trans (sumD_each y hy) h,(hes y hy).2.2.2⟩
end Go.Proofs.YtfdmhpohfjbpfaaGreat
