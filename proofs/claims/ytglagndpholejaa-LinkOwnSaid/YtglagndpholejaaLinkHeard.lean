/- What the laws on links call: heard. -/
import Derived.Test.YtglagndpholejaaLinkHear
namespace Go.Proofs.Ytglagndpholejaa
open Go.ChangeShapes Go.WideShapes Go.ChangeAt Go.RowKit
set_option linter.unusedVariables false

end Go.Proofs.Ytglagndpholejaa
