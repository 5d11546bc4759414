/- Words, walks and plain laws that a claim of this seat needs, one text after the other (part 17). -/
import Derived.Test.YtijinnbcebhfhaaBT16
set_option linter.unusedVariables false
set_option linter.unusedSimpArgs false
section
set_option linter.unusedVariables false
set_option linter.unusedSimpArgs false
namespace Go.Proofs.Ytijinnbcebhfhaa.T1
open Go.RowKit Go.Proofs.YtijinnbcebhfhaaW.PrintWords Go.Proofs.YtijinnbcebhfhaaW.PrintLast Go.Proofs.YtijinnbcebhfhaaW.PrintMore
open Go.Proofs.Ytijinnbcebhfhaa.T0
set_option maxRecDepth 100000
theorem t_10_0 : rest 60 10 0 = some true := of_ok (by decide +kernel)
theorem t_10_1 : rest 60 10 1 = some true := of_ok (by decide +kernel)
theorem t_10_2 : rest 60 10 2 = some true := of_ok (by decide +kernel)
theorem t_10_3 : rest 60 10 3 = some true := of_ok (by decide +kernel)
theorem t_10_4 : rest 60 10 4 = some true := of_ok (by decide +kernel)
theorem t_10_5 : rest 60 10 5 = some true := of_ok (by decide +kernel)
theorem t_10_6 : rest 60 10 6 = some true := of_ok (by decide +kernel)
theorem t_10_7 : rest 60 10 7 = some true := of_ok (by decide +kernel)
end Go.Proofs.Ytijinnbcebhfhaa.T1
end
