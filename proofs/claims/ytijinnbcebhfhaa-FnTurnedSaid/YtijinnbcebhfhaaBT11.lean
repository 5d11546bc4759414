/- Words, walks and plain laws that a claim of this seat needs, one text after the other (part 11). -/
import Derived.Test.YtijinnbcebhfhaaBT10
set_option linter.unusedVariables false
set_option linter.unusedSimpArgs false
section
set_option linter.unusedVariables false
set_option linter.unusedSimpArgs false
namespace Go.Proofs.Ytijinnbcebhfhaa.T1
open Go.RowKit Go.Proofs.YtijinnbcebhfhaaW.PrintWords Go.Proofs.YtijinnbcebhfhaaW.PrintLast Go.Proofs.YtijinnbcebhfhaaW.PrintMore
open Go.Proofs.Ytijinnbcebhfhaa.T0
set_option maxRecDepth 100000
theorem t_4_0 : rest 60 4 0 = some true := of_ok (by decide +kernel)
theorem t_4_1 : rest 60 4 1 = some true := of_ok (by decide +kernel)
theorem t_4_2 : rest 60 4 2 = some true := of_ok (by decide +kernel)
theorem t_4_3 : rest 60 4 3 = some true := of_ok (by decide +kernel)
theorem t_4_4 : rest 60 4 4 = some true := of_ok (by decide +kernel)
theorem t_4_5 : rest 60 4 5 = some true := of_ok (by decide +kernel)
theorem t_4_6 : rest 60 4 6 = some true := of_ok (by decide +kernel)
theorem t_4_7 : rest 60 4 7 = some true := of_ok (by decide +kernel)
end Go.Proofs.Ytijinnbcebhfhaa.T1
end
