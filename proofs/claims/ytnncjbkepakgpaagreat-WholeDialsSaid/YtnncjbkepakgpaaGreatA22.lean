/- OPERATIONS CLEANED: stores, swaps. -/
import Derived.Test.YtnncjbkepakgpaaGreatA21
namespace Go.Proofs.YtnncjbkepakgpaaGreat
open Go.RowKit Qv
set_option linter.unusedVariables false
set_option linter.unusedSimpArgs false
set_option maxRecDepth 100000
attribute[local go_sem↓]bI bu bZ bO dQ dA aZ aW
attribute[local go_sem]bT cd cz cK ez fP
end Go.Proofs.YtnncjbkepakgpaaGreat
