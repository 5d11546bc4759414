/- Words, walks and plain laws that a claim of this seat needs, one text after the other (part 10). -/
import Derived.Test.YtijinnbcebhfhaaBT9
set_option linter.unusedVariables false
set_option linter.unusedSimpArgs false
section
set_option linter.unusedVariables false
set_option linter.unusedSimpArgs false
namespace Go.Proofs.Ytijinnbcebhfhaa.T1
open Go.RowKit Go.Proofs.YtijinnbcebhfhaaW.PrintWords Go.Proofs.YtijinnbcebhfhaaW.PrintLast Go.Proofs.YtijinnbcebhfhaaW.PrintMore
open Go.Proofs.Ytijinnbcebhfhaa.T0
set_option maxRecDepth 100000
theorem t_3_0 : rest 60 3 0 = some true := of_ok (by decide +kernel)
theorem t_3_1 : rest 60 3 1 = some true := of_ok (by decide +kernel)
theorem t_3_2 : rest 60 3 2 = some true := of_ok (by decide +kernel)
theorem t_3_3 : rest 60 3 3 = some true := of_ok (by decide +kernel)
theorem t_3_4 : rest 60 3 4 = some true := of_ok (by decide +kernel)
theorem t_3_5 : rest 60 3 5 = some true := of_ok (by decide +kernel)
theorem t_3_6 : rest 60 3 6 = some true := of_ok (by decide +kernel)
theorem t_3_7 : rest 60 3 7 = some true := of_ok (by decide +kernel)
end Go.Proofs.Ytijinnbcebhfhaa.T1
end
