/- Words, walks and plain laws that a claim of this seat needs, one text after the other (part 7). -/
import Derived.Test.YtijinnbcebhfhaaBT6
set_option linter.unusedVariables false
set_option linter.unusedSimpArgs false
section
set_option linter.unusedVariables false
set_option linter.unusedSimpArgs false
namespace Go.Proofs.Ytijinnbcebhfhaa.T1
open Go.RowKit Go.Proofs.YtijinnbcebhfhaaW.PrintWords Go.Proofs.YtijinnbcebhfhaaW.PrintLast Go.Proofs.YtijinnbcebhfhaaW.PrintMore
open Go.Proofs.Ytijinnbcebhfhaa.T0
set_option maxRecDepth 100000
theorem t_0_0 : rest 60 0 0 = some true := of_ok (by decide +kernel)
theorem t_0_1 : rest 60 0 1 = some true := of_ok (by decide +kernel)
theorem t_0_2 : rest 60 0 2 = some true := of_ok (by decide +kernel)
theorem t_0_3 : rest 60 0 3 = some true := of_ok (by decide +kernel)
theorem t_0_4 : rest 60 0 4 = some true := of_ok (by decide +kernel)
theorem t_0_5 : rest 60 0 5 = some true := of_ok (by decide +kernel)
theorem t_0_6 : rest 60 0 6 = some true := of_ok (by decide +kernel)
theorem t_0_7 : rest 60 0 7 = some true := of_ok (by decide +kernel)
end Go.Proofs.Ytijinnbcebhfhaa.T1
end
