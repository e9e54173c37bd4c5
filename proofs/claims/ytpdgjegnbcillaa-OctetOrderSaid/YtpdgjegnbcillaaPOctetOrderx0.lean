/- The Go functions that the law reaches, as plain Lean functions, and proofs that the calls of the machine come to them, or the row of the law over them, for every input that the row speaks of; written by a program of this session (wip/tool/mkprint.py) out of the translation and of hand-made templates. -/
import Derived.Test.YtpdgjegnbcillaaProg
import Derived.RegionTactic
import Derived.ChangeAlike
import Derived.Below
import Derived.Deep.Draws
import Derived.Deep.AppendLies
import Derived.Maps.AppendAt
import Derived.OwnWalk
import Derived.Laws.BytesArg
import Derived.Laws.MakeOwn
import Derived.Laws.OwnMore
import Derived.Deep.OwnRows
import Derived.Tactics
import Derived.Lib.ConvBytes
import Derived.Laws.Slices
import Derived.WalkKit
import Derived.KernelRfl
import Derived.RowKit3
import Derived.Deep.LoopGhost
import Derived.Deep.QuietTactic
import Derived.BigQuiet
import Derived.WideLaws
import Derived.Deep.DeepCutAuto
import Derived.Deep.CutBlock
import Derived.Deep.RegionHeld3
import Derived.Laws.Rows
import Derived.Lib.AppendStr
import Derived.ArgAppend
import Derived.Laws.IdiomCopy
import Derived.OrdersHeld
import Derived.Laws.BitsLemmas
import Derived.RowKit
import Derived.Test.YtpdgjegnbcillaaWWords
import Derived.Test.YtpdgjegnbcillaaWLast
import Derived.Test.YtpdgjegnbcillaaWTab
import Derived.Test.YtpdgjegnbcillaaWFour
import Derived.Test.YtpdgjegnbcillaaWQPut
import Derived.Test.YtpdgjegnbcillaaWApart
import Derived.Test.YtpdgjegnbcillaaWArr
import Derived.Test.YtpdgjegnbcillaaWZeros
import Derived.Test.YtpdgjegnbcillaaWFoot
import Derived.Test.YtpdgjegnbcillaaWKept
import Derived.Test.YtpdgjegnbcillaaWShare
import Derived.Test.YtpdgjegnbcillaaWN
import Derived.Test.YtpdgjegnbcillaaWFootNe
import Derived.Test.YtpdgjegnbcillaaWAt
import Derived.Test.YtpdgjegnbcillaaWEqStruct
import Derived.Test.YtpdgjegnbcillaaWRepsOne
import Derived.Test.YtpdgjegnbcillaaWInv
import Derived.Test.YtpdgjegnbcillaaWInvWords
import Derived.Test.YtpdgjegnbcillaaWGuard
import Derived.Test.YtpdgjegnbcillaaWNEv
import Derived.Test.YtpdgjegnbcillaaWMore
namespace Go.Proofs.Ytpdgjegnbcillaa.POctetOrder
open Go.RowKit Go.Proofs.YtpdgjegnbcillaaW.PrintWords Go.Proofs.YtpdgjegnbcillaaW.PrintLast Go.Proofs.YtpdgjegnbcillaaW.PrintMore
attribute [local go_sem] max2_int min2_int max_two min_two max_three min_three max_four min_four   -- for this text's walks alone
set_option linter.unusedVariables false
set_option linter.unusedSimpArgs false



def errW : Option Int → Value
  | none => .nilIface
  | some c => .iface 0 (.int .i64 c)
theorem errW_none : errW none = .nilIface := rfl
theorem errW_some (c : Int) : errW (some c) = .iface 0 (.int .i64 c) := rfl

-- the values' own types

end Go.Proofs.Ytpdgjegnbcillaa.POctetOrder
