/- The tie of the listed variables. -/
import Derived.Test.YtlkimpjcgcacdaaGreatDoorTiG
import Derived.Test.YtlkimpjcgcacdaaGreatDoorTiH
import Derived.Test.YtlkimpjcgcacdaaGreatDoorTiI
import Derived.SevenTiedAt
namespace Go.Proofs.YtlkimpjcgcacdaaGreatDoor.Tied
open Go Go.Facts
theorem memory_heap (w : World) : w.memory.heap = w.heap := rfl
theorem memL_heap : memL.heap = heapL := rfl
theorem agree (os : Os) (tape : Tape) : AgreeOn blocks memL (varsWorld Tryz.prog 400 (varsId Tryz.prog) os tape).memory := by
  intro b hb
  rw [memory_heap, memL_heap]
  simp only [blocks, List.mem_cons, List.mem_nil_iff, or_false] at hb
  rcases hb with rfl | rfl | rfl | rfl | rfl | rfl | rfl | rfl | rfl | rfl | rfl
  · exact (block2 os tape).trans (by kernel_rfl)
  · exact (block3 os tape).trans (by kernel_rfl)
  · exact (block7 os tape).trans (by kernel_rfl)
  · exact (block8 os tape).trans (by kernel_rfl)
  · exact (block9 os tape).trans (by kernel_rfl)
  · exact (block10 os tape).trans (by kernel_rfl)
  · exact (block11 os tape).trans (by kernel_rfl)
  · exact (block12 os tape).trans (by kernel_rfl)
  · exact (block18 os tape).trans (by kernel_rfl)
  · exact (block19 os tape).trans (by kernel_rfl)
  · exact (block20 os tape).trans (by kernel_rfl)
theorem tie : Tryz.prog.laidByTextLater list [.data, .data, .data, .data, .data, .data, .sentinel, .sentinel] true :=
  tie_of_blocks 400 8 memL blocks faces worded unworded rooted kinds some_vars named done data nod rows inside facing varsIn_blocks agree faced plain
theorem pin_first : Tryz.pinned.checked.prog.pinnedFits "unicode/utf8.first" = true := by kernel_rfl
theorem pin_case : Tryz.pinned.checked.prog.pinnedFits "unicode.CaseRanges" = true := by kernel_rfl
theorem noOwnUnsafe : Tryz.pinned.checked.prog.headLifts.contains "ownunsafe" = false := by kernel_rfl
end Go.Proofs.YtlkimpjcgcacdaaGreatDoor.Tied
