/- A budget that nobody made has no room; for any number (the law BudgetNobody: the machine's walk says all, nothing is left to be shown of numbers). -/
import Derived.Test.YtpdgjegnbcillaaPBudgetNobodyx1
namespace Go.Proofs.Ytpdgjegnbcillaa.Pure
open Go.RowKit Go.Proofs.Ytpdgjegnbcillaa.PBudgetNobody Go.Proofs.YtpdgjegnbcillaaW.PrintWords Go.Proofs.YtpdgjegnbcillaaW.PrintLast
set_option linter.unusedVariables false
set_option linter.unusedSimpArgs false

theorem BudgetNobody : chainmanlaw07_BudgetNobody.Pure := fun _ _ => rfl

end Go.Proofs.Ytpdgjegnbcillaa.Pure
