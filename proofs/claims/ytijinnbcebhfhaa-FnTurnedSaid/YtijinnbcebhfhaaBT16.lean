/- Words, walks and plain laws that a claim of this seat needs, one text after the other (part 16). -/
import Derived.Test.YtijinnbcebhfhaaBT15
set_option linter.unusedVariables false
set_option linter.unusedSimpArgs false
section
set_option linter.unusedVariables false
set_option linter.unusedSimpArgs false
namespace Go.Proofs.Ytijinnbcebhfhaa.T1
open Go.RowKit Go.Proofs.YtijinnbcebhfhaaW.PrintWords Go.Proofs.YtijinnbcebhfhaaW.PrintLast Go.Proofs.YtijinnbcebhfhaaW.PrintMore
open Go.Proofs.Ytijinnbcebhfhaa.T0
set_option maxRecDepth 100000
theorem t_9_0 : rest 60 9 0 = some true := of_ok (by decide +kernel)
theorem t_9_1 : rest 60 9 1 = some true := of_ok (by decide +kernel)
theorem t_9_2 : rest 60 9 2 = some true := of_ok (by decide +kernel)
theorem t_9_3 : rest 60 9 3 = some true := of_ok (by decide +kernel)
theorem t_9_4 : rest 60 9 4 = some true := of_ok (by decide +kernel)
theorem t_9_5 : rest 60 9 5 = some true := of_ok (by decide +kernel)
theorem t_9_6 : rest 60 9 6 = some true := of_ok (by decide +kernel)
theorem t_9_7 : rest 60 9 7 = some true := of_ok (by decide +kernel)
end Go.Proofs.Ytijinnbcebhfhaa.T1
end
