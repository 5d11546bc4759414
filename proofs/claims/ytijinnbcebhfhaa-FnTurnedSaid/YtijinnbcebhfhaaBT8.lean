/- Words, walks and plain laws that a claim of this seat needs, one text after the other (part 8). -/
import Derived.Test.YtijinnbcebhfhaaBT7
set_option linter.unusedVariables false
set_option linter.unusedSimpArgs false
section
set_option linter.unusedVariables false
set_option linter.unusedSimpArgs false
namespace Go.Proofs.Ytijinnbcebhfhaa.T1
open Go.RowKit Go.Proofs.YtijinnbcebhfhaaW.PrintWords Go.Proofs.YtijinnbcebhfhaaW.PrintLast Go.Proofs.YtijinnbcebhfhaaW.PrintMore
open Go.Proofs.Ytijinnbcebhfhaa.T0
set_option maxRecDepth 100000
theorem t_1_0 : rest 60 1 0 = some true := of_ok (by decide +kernel)
theorem t_1_1 : rest 60 1 1 = some true := of_ok (by decide +kernel)
theorem t_1_2 : rest 60 1 2 = some true := of_ok (by decide +kernel)
theorem t_1_3 : rest 60 1 3 = some true := of_ok (by decide +kernel)
theorem t_1_4 : rest 60 1 4 = some true := of_ok (by decide +kernel)
theorem t_1_5 : rest 60 1 5 = some true := of_ok (by decide +kernel)
theorem t_1_6 : rest 60 1 6 = some true := of_ok (by decide +kernel)
theorem t_1_7 : rest 60 1 7 = some true := of_ok (by decide +kernel)
end Go.Proofs.Ytijinnbcebhfhaa.T1
end
