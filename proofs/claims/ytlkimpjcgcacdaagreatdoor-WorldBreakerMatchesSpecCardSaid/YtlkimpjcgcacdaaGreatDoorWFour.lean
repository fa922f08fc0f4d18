/- What the printed contracts lean on: those of the print's words that are used here. -/
import Derived.Test.YtlkimpjcgcacdaaGreatDoorWTab
/-! ### 56. Four, five, six operations that may come up next, in any order -/
namespace Go.Proofs.YtlkimpjcgcacdaaGreatDoorW.PrintLast
section
variable {P : Program} {ops : Array Oper} {Q : Exit → Act → World → Prop} {md : Region.Mode} {S : World → Prop} {ds : List Nat} {T : Bool × List (List Nat × List Nat)}
end
end Go.Proofs.YtlkimpjcgcacdaaGreatDoorW.PrintLast
