/- Words, walks and plain laws that a claim of this seat needs, one text after the other (part 14). -/
import Derived.Test.YtijinnbcebhfhaaBT13
set_option linter.unusedVariables false
set_option linter.unusedSimpArgs false
section
set_option linter.unusedVariables false
set_option linter.unusedSimpArgs false
namespace Go.Proofs.Ytijinnbcebhfhaa.T1
open Go.RowKit Go.Proofs.YtijinnbcebhfhaaW.PrintWords Go.Proofs.YtijinnbcebhfhaaW.PrintLast Go.Proofs.YtijinnbcebhfhaaW.PrintMore
open Go.Proofs.Ytijinnbcebhfhaa.T0
set_option maxRecDepth 100000
theorem t_7_0 : rest 60 7 0 = some true := of_ok (by decide +kernel)
theorem t_7_1 : rest 60 7 1 = some true := of_ok (by decide +kernel)
theorem t_7_2 : rest 60 7 2 = some true := of_ok (by decide +kernel)
theorem t_7_3 : rest 60 7 3 = some true := of_ok (by decide +kernel)
theorem t_7_4 : rest 60 7 4 = some true := of_ok (by decide +kernel)
theorem t_7_5 : rest 60 7 5 = some true := of_ok (by decide +kernel)
theorem t_7_6 : rest 60 7 6 = some true := of_ok (by decide +kernel)
theorem t_7_7 : rest 60 7 7 = some true := of_ok (by decide +kernel)
end Go.Proofs.Ytijinnbcebhfhaa.T1
end
