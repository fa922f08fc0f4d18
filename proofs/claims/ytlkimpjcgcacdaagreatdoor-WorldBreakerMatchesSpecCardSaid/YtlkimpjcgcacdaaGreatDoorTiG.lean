/- The heap that the initialisers leave: some of its blocks. -/
import Derived.Test.YtlkimpjcgcacdaaGreatDoorTiF
namespace Go.Proofs.YtlkimpjcgcacdaaGreatDoor.Tied
open Go Go.Facts
theorem done : ∀ os tape, varsDone Tryz.prog 400 (varsId Tryz.prog) os tape = true := fun _ _ => by kernel_rfl
theorem faced : ∀ os tape, laidRowsB Tryz.prog (varsWorld Tryz.prog 400 (varsId Tryz.prog) os tape).memory [.cell 11 0, .cell 12 0] = true := fun _ _ => by kernel_rfl
theorem block3 : ∀ os tape, (varsWorld Tryz.prog 400 (varsId Tryz.prog) os tape).heap[3]? = some (.cells #[.slice (some ⟨20, 0, none⟩) 94 94] 456) := fun _ _ => by kernel_rfl
theorem block11 : ∀ os tape, (varsWorld Tryz.prog 400 (varsId Tryz.prog) os tape).heap[11]? = some (.cells #[.iface 749 (.pointer (some ⟨19, 0, none⟩))] 343) := fun _ _ => by kernel_rfl
end Go.Proofs.YtlkimpjcgcacdaaGreatDoor.Tied
