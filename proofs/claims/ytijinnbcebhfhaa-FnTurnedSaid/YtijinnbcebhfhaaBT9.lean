/- Words, walks and plain laws that a claim of this seat needs, one text after the other (part 9). -/
import Derived.Test.YtijinnbcebhfhaaBT8
set_option linter.unusedVariables false
set_option linter.unusedSimpArgs false
section
set_option linter.unusedVariables false
set_option linter.unusedSimpArgs false
namespace Go.Proofs.Ytijinnbcebhfhaa.T1
open Go.RowKit Go.Proofs.YtijinnbcebhfhaaW.PrintWords Go.Proofs.YtijinnbcebhfhaaW.PrintLast Go.Proofs.YtijinnbcebhfhaaW.PrintMore
open Go.Proofs.Ytijinnbcebhfhaa.T0
set_option maxRecDepth 100000
theorem t_2_0 : rest 60 2 0 = some true := of_ok (by decide +kernel)
theorem t_2_1 : rest 60 2 1 = some true := of_ok (by decide +kernel)
theorem t_2_2 : rest 60 2 2 = some true := of_ok (by decide +kernel)
theorem t_2_3 : rest 60 2 3 = some true := of_ok (by decide +kernel)
theorem t_2_4 : rest 60 2 4 = some true := of_ok (by decide +kernel)
theorem t_2_5 : rest 60 2 5 = some true := of_ok (by decide +kernel)
theorem t_2_6 : rest 60 2 6 = some true := of_ok (by decide +kernel)
theorem t_2_7 : rest 60 2 7 = some true := of_ok (by decide +kernel)
end Go.Proofs.Ytijinnbcebhfhaa.T1
end
