/- What functions that the law reaches answer, each with its contract over the model, where its printed form gives a value. Written by a program of this work (myprint.py over print.py). -/
import Derived.Test.YtgilfdgcimcohaaGreatDoorProg
import Derived.Below
import Derived.Deep.Draws
import Derived.Deep.AppendLies
import Derived.Maps.AppendAt
import Derived.OwnWalk
import Derived.Laws.BytesArg
import Derived.Laws.MakeOwn
import Derived.Laws.OwnMore
import Derived.Deep.OwnRows
import Derived.Tactics
import Derived.Lib.ConvBytes
import Derived.Laws.Slices
import Derived.WalkKit
import Derived.KernelRfl
import Derived.RowKit3
import Derived.Deep.LoopGhost
import Derived.Deep.QuietTactic
import Derived.BigQuiet
import Derived.WideLaws
import Derived.Deep.DeepCutAuto
import Derived.Deep.CutBlock
import Derived.Deep.RegionHeld3
import Derived.Laws.Rows
import Derived.Lib.AppendStr
import Derived.ArgAppend
import Derived.Laws.IdiomCopy
import Derived.OrdersHeld
import Derived.Laws.BitsLemmas
import Derived.RowKit
import Derived.Test.YtgilfdgcimcohaaGreatDoorRan
import Derived.LoopN
import Derived.Test.YtgilfdgcimcohaaGreatDoorWWords
import Derived.Test.YtgilfdgcimcohaaGreatDoorWLast
import Derived.Test.YtgilfdgcimcohaaGreatDoorWTab
import Derived.Test.YtgilfdgcimcohaaGreatDoorWFour
import Derived.Test.YtgilfdgcimcohaaGreatDoorWQPut
import Derived.Test.YtgilfdgcimcohaaGreatDoorWApart
import Derived.Test.YtgilfdgcimcohaaGreatDoorWArr
import Derived.Test.YtgilfdgcimcohaaGreatDoorWZeros
import Derived.Test.YtgilfdgcimcohaaGreatDoorWFoot
import Derived.Test.YtgilfdgcimcohaaGreatDoorWKept
import Derived.Test.YtgilfdgcimcohaaGreatDoorWShare
import Derived.Test.YtgilfdgcimcohaaGreatDoorWN
import Derived.Test.YtgilfdgcimcohaaGreatDoorWFootNe
import Derived.Test.YtgilfdgcimcohaaGreatDoorWAt
import Derived.Test.YtgilfdgcimcohaaGreatDoorWEqStruct
import Derived.Test.YtgilfdgcimcohaaGreatDoorWRepsOne
import Derived.Test.YtgilfdgcimcohaaGreatDoorWInv
import Derived.Test.YtgilfdgcimcohaaGreatDoorWInvWords
import Derived.Test.YtgilfdgcimcohaaGreatDoorWGuard
import Derived.Test.YtgilfdgcimcohaaGreatDoorWNEv
import Derived.Test.YtgilfdgcimcohaaGreatDoorWMore
namespace Go.Proofs.YtgilfdgcimcohaaGreatDoor.PWorldTravelMatchesSpec
open Go.RowKit Go.Proofs.YtgilfdgcimcohaaGreatDoorW.PrintWords Go.Proofs.YtgilfdgcimcohaaGreatDoorW.PrintLast Go.Proofs.YtgilfdgcimcohaaGreatDoorW.PrintMore
attribute [local go_sem] max2_int min2_int max_two min_two max_three min_three max_four min_four   -- for this text's walks alone
set_option linter.unusedVariables false
set_option linter.unusedSimpArgs false



def errW : Option Int → Value
  | none => .nilIface
  | some c => .iface 0 (.int .i64 c)
theorem errW_none : errW none = .nilIface := rfl
theorem errW_some (c : Int) : errW (some c) = .iface 0 (.int .i64 c) := rfl

-- the values' own types

end Go.Proofs.YtgilfdgcimcohaaGreatDoor.PWorldTravelMatchesSpec
