/- The words of the program that tie what its initialisers lay. -/
import Derived.Test.YtlkimpjcgcacdaaGreatDoorRows
import Derived.LaidByTextLater
import Derived.KernelRfl
namespace Go.Proofs.YtlkimpjcgcacdaaGreatDoor.Tied
open Go
def list : List (String × DataW Unit) := [("math/bits.deBruijn64tab", Rows.laid_math_bits_deBruijn64tab), ("unicode/utf8.acceptRanges", Rows.laid_unicode_utf8_acceptRanges), ("unicode.asciiFold", Rows.laid_unicode_asciiFold), ("unicode.caseOrbit", Rows.laid_unicode_caseOrbit), ("internal/strconv.uint64pow10", Rows.laid_internal_strconv_uint64pow10), ("math/bits.deBruijn32tab", Rows.laid_math_bits_deBruijn32tab), ("strconv.ErrSyntax", Rows.laid_strconv_ErrSyntax), ("strconv.ErrRange", Rows.laid_strconv_ErrRange)]
theorem worded : Tryz.prog.worded (varsWordLater true) = true := by kernel_rfl
theorem unworded : Tryz.prog.worded (varsWordLater !true) = false := by kernel_rfl
theorem rooted : Tryz.prog.worded rootWordLater = true := by kernel_rfl
theorem kinds : list.map (fun x => Tryz.prog.kindOfLater x.1) = ([.data, .data, .data, .data, .data, .data, .sentinel, .sentinel] : List LaidKind).map some := by kernel_rfl
theorem some_vars : (Tryz.prog.funcNamed "gosem.cut.vars").isSome = true := by kernel_rfl
theorem named : varsNamedLaterB Tryz.prog (varsId Tryz.prog) list = true := by kernel_rfl
end Go.Proofs.YtlkimpjcgcacdaaGreatDoor.Tied
