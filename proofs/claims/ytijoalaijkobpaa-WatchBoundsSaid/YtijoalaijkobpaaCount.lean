/- What the functions of package count compute. -/
import Derived.Test.YtijoalaijkobpaaOpen
import Derived.Test.YtijoalaijkobpaaNum
import Derived.WalkLawsBesides
import Derived.Deep.DeepCutAuto
import Derived.Lib.Hide
import Derived.BigQuiet
import Derived.Deep.QuietTactic
namespace Go.Proofs.Ytijoalaijkobpaa
open Go.ChangeShapes Go.WideShapes Go.ChangeAt Go.RowKit
set_option linter.unusedVariables false

end Go.Proofs.Ytijoalaijkobpaa
