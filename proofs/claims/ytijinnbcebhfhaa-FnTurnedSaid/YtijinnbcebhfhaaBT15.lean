/- Words, walks and plain laws that a claim of this seat needs, one text after the other (part 15). -/
import Derived.Test.YtijinnbcebhfhaaBT14
set_option linter.unusedVariables false
set_option linter.unusedSimpArgs false
section
set_option linter.unusedVariables false
set_option linter.unusedSimpArgs false
namespace Go.Proofs.Ytijinnbcebhfhaa.T1
open Go.RowKit Go.Proofs.YtijinnbcebhfhaaW.PrintWords Go.Proofs.YtijinnbcebhfhaaW.PrintLast Go.Proofs.YtijinnbcebhfhaaW.PrintMore
open Go.Proofs.Ytijinnbcebhfhaa.T0
set_option maxRecDepth 100000
theorem t_8_0 : rest 60 8 0 = some true := of_ok (by decide +kernel)
theorem t_8_1 : rest 60 8 1 = some true := of_ok (by decide +kernel)
theorem t_8_2 : rest 60 8 2 = some true := of_ok (by decide +kernel)
theorem t_8_3 : rest 60 8 3 = some true := of_ok (by decide +kernel)
theorem t_8_4 : rest 60 8 4 = some true := of_ok (by decide +kernel)
theorem t_8_5 : rest 60 8 5 = some true := of_ok (by decide +kernel)
theorem t_8_6 : rest 60 8 6 = some true := of_ok (by decide +kernel)
theorem t_8_7 : rest 60 8 7 = some true := of_ok (by decide +kernel)
end Go.Proofs.Ytijinnbcebhfhaa.T1
end
