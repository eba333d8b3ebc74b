/- What steadref.SameFrame and SameLink say of what is the same. -/
import Derived.Test.YtglagndpholejaaFrameLaw
namespace Go.Proofs.Ytglagndpholejaa
open Go.ChangeShapes Go.WideShapes Go.ChangeAt Go.RowKit
set_option linter.unusedVariables false

end Go.Proofs.Ytglagndpholejaa
