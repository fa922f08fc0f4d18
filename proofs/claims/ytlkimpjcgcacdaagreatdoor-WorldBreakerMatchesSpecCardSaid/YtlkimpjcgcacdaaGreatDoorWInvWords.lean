/- What the printed contracts lean on: those of the print's words that are used here. -/
import Derived.Test.YtlkimpjcgcacdaaGreatDoorWInv
import Derived.Test.YtlkimpjcgcacdaaGreatDoorWFootNe
namespace Go.Proofs.YtlkimpjcgcacdaaGreatDoorW.PrintWords
open Go.RowKit
end Go.Proofs.YtlkimpjcgcacdaaGreatDoorW.PrintWords
namespace Go.Proofs.YtlkimpjcgcacdaaGreatDoorW.PrintLast
section
variable {ops : Array Oper} {a : Act} {o og : Oper} {g : Nat} {t : Tmp} {u : Bool}
end
end Go.Proofs.YtlkimpjcgcacdaaGreatDoorW.PrintLast
