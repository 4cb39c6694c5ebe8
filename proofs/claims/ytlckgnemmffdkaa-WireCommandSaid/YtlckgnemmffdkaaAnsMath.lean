/- What is answered. -/
namespace Go.Proofs.Ytlckgnemmffdkaa
structure Ans where
  e : Int
  rate : Int
  burst : Int
  lease : Int
  size : Int
  deriving DecidableEq
def Ans.err (e : Int) : Ans := ⟨e, 0, 0, 0, 0⟩
end Go.Proofs.Ytlckgnemmffdkaa
