/- Words, walks and plain laws that a claim of this seat needs, one text after the other (part 13). -/
import Derived.Test.YtijinnbcebhfhaaBT12
set_option linter.unusedVariables false
set_option linter.unusedSimpArgs false
section
set_option linter.unusedVariables false
set_option linter.unusedSimpArgs false
namespace Go.Proofs.Ytijinnbcebhfhaa.T1
open Go.RowKit Go.Proofs.YtijinnbcebhfhaaW.PrintWords Go.Proofs.YtijinnbcebhfhaaW.PrintLast Go.Proofs.YtijinnbcebhfhaaW.PrintMore
open Go.Proofs.Ytijinnbcebhfhaa.T0
set_option maxRecDepth 100000
theorem t_6_0 : rest 60 6 0 = some true := of_ok (by decide +kernel)
theorem t_6_1 : rest 60 6 1 = some true := of_ok (by decide +kernel)
theorem t_6_2 : rest 60 6 2 = some true := of_ok (by decide +kernel)
theorem t_6_3 : rest 60 6 3 = some true := of_ok (by decide +kernel)
theorem t_6_4 : rest 60 6 4 = some true := of_ok (by decide +kernel)
theorem t_6_5 : rest 60 6 5 = some true := of_ok (by decide +kernel)
theorem t_6_6 : rest 60 6 6 = some true := of_ok (by decide +kernel)
theorem t_6_7 : rest 60 6 7 = some true := of_ok (by decide +kernel)
end Go.Proofs.Ytijinnbcebhfhaa.T1
end
