/- Words, walks and plain laws that a claim of this seat needs, one text after the other (part 12). -/
import Derived.Test.YtijinnbcebhfhaaBT11
set_option linter.unusedVariables false
set_option linter.unusedSimpArgs false
section
set_option linter.unusedVariables false
set_option linter.unusedSimpArgs false
namespace Go.Proofs.Ytijinnbcebhfhaa.T1
open Go.RowKit Go.Proofs.YtijinnbcebhfhaaW.PrintWords Go.Proofs.YtijinnbcebhfhaaW.PrintLast Go.Proofs.YtijinnbcebhfhaaW.PrintMore
open Go.Proofs.Ytijinnbcebhfhaa.T0
set_option maxRecDepth 100000
theorem t_5_0 : rest 60 5 0 = some true := of_ok (by decide +kernel)
theorem t_5_1 : rest 60 5 1 = some true := of_ok (by decide +kernel)
theorem t_5_2 : rest 60 5 2 = some true := of_ok (by decide +kernel)
theorem t_5_3 : rest 60 5 3 = some true := of_ok (by decide +kernel)
theorem t_5_4 : rest 60 5 4 = some true := of_ok (by decide +kernel)
theorem t_5_5 : rest 60 5 5 = some true := of_ok (by decide +kernel)
theorem t_5_6 : rest 60 5 6 = some true := of_ok (by decide +kernel)
theorem t_5_7 : rest 60 5 7 = some true := of_ok (by decide +kernel)
end Go.Proofs.Ytijinnbcebhfhaa.T1
end
